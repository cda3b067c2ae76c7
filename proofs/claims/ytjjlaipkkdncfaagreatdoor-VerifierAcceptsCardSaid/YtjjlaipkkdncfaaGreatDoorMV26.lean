import Derived.Test.YtjjlaipkkdncfaaGreatDoorMV24
set_option linter.unusedVariables false
set_option linter.unusedSimpArgs false
set_option maxRecDepth 100000
set_option maxHeartbeats 40000000
namespace Go.Proofs.YtjjlaipkkdncfaaGreatDoor
open Go.Proofs.Tryz
open Go.RowKit
attribute [local irreducible] wpQuiet wpAnyH
theorem pK{w w':Wd}{base e s n:Nat}{v:Value}{I:Wv}(h:w.ownsRow base e s v n I)(hb:∀ b,v.ownBlock=some b->w'.heap[b]? = w.heap[b]?):w'.ownsRow base e s v n I:=by
 refine⟨h.1,?_⟩;rcases h.2 with J|⟨g,cap,D,rfl,hg,K,r⟩
 ·exact .inl J
 ·exact .inr ⟨g,cap,D,rfl,hg,by rw[hb g rfl];exact K,r⟩
structure Io2(B:Nat)(w0 W:Wd)(v x:Value)(l m:List Nat):Prop where
 be:Below B w0 W
 a:W.ownsRow B 5 1 v l.length (n8 l)
 b:W.ownsRow B 5 1 x m.length (n8 m)
 ap:∀ k,v.ownBlock=some k->x.ownBlock≠some k
theorem Io2.left{B:Nat}{w0 W W':Wd}{v v' x:Value}{l l' m:List Nat}(h:Io2 B w0 W v x l m)(K:B<=W.heap.size)(o:Obj)(O:W'.ownsRow B 5 1 v' l'.length (n8 l'))(hg:(W.alloc o).grownBy W' v.ownBlock)(I:v'.ownBlock=v.ownBlock\/v'.ownBlock=some (W.alloc o).heap.size):Io2 B w0 W' v' x l' m:=by
 have J:∀ k,x.ownBlock=some k->k<W.heap.size:=λk D=>(h.b.lt k D).2
 refine⟨(h.be.alloc K o).grown hg (by simp;omega) (λk D=>(h.a.lt k D).1),O,pK h.b (λk D=>?_),λk D e=>?_⟩
 ·rw[hg.block k (by simp;have:=J k D;omega) (λe=>h.ap k e.symm D),heap_alloc_old _ _ (J k D)]
 ·rcases I with e2|e2
  ·exact h.ap k (e2.symm.trans D) e
  ·rw[D] at e2;injection e2 with e2
   have:=J k e;simp at e2;omega
theorem Io2.right{B:Nat}{w0 W W':Wd}{v x I:Value}{l m m':List Nat}(h:Io2 B w0 W v x l m)(O:B<=W.heap.size)(o:Obj)(R:W'.ownsRow B 5 1 I m'.length (n8 m'))(hg:(W.alloc o).grownBy W' x.ownBlock)(J:I.ownBlock=x.ownBlock\/I.ownBlock=some (W.alloc o).heap.size):Io2 B w0 W' v I l m':=by
 have K:∀ k,v.ownBlock=some k->k<W.heap.size:=λk D=>(h.a.lt k D).2
 refine⟨(h.be.alloc O o).grown hg (by simp;omega) (λk D=>(h.b.lt k D).1),pK h.a (λk D=>?_),R,λk D e=>?_⟩
 ·rw[hg.block k (by simp;have:=K k D;omega) (λe=>h.ap k D e.symm),heap_alloc_old _ _ (K k D)]
 ·rcases J with e2|e2
  ·exact h.ap k D (e2.symm.trans e)
  ·rw[e] at e2;injection e2 with e2
   have:=K k D;simp at e2;omega
theorem RZ{l:List Nat}{k:Nat}(h:l.length<=k):nth l k=0:=by
 unfold nth;rw[jn,List.getElem?_eq_none h];rfl
theorem vO{α:Type}(n:Nat)(f:Nat->α):arr (n+1) f=arr n f++[f n]:=by
 unfold arr;rw[List.range_succ,List.map_append];rfl
theorem Sn.cellN{w:Wd}{b off cap:Nat}{l:List Nat}(h:Sn w 1 (.slice (some ⟨b,off,none⟩) l.length cap) l.length (n8 l)){k:Nat}(J:k<l.length):w.cell? ⟨b,off+k,none⟩=some (.int .u8 (nth l k:Nat)):=by
 obtain⟨A,c,e,_,_,K⟩:=h;obtain⟨O,R,D,I⟩:=K (by omega);injection e with e1 _ _
 rw[D] at e1;injection e1 with e1
 injection e1 with e1 e2 _
 rw[e1,e2];exact I k _ (oE l k J)
theorem DC(vk vb:Value)(key l:List Nat)(w:Wd)(hk:Sn w 1 vk key.length (n8 key))(hb:Sn w 1 vb l.length (n8 l))(p7:key.length<=64)(h7:Byn key)(h9:Byn l)(hn:l.length<=800000000):
  Wc 89 #[vk,vb] w (Rt w (.agg (n8 (d6 key l)).toArray)):=by
 obtain⟨A,cap,rfl,n3,_,_⟩:=id hk;obtain⟨Ab,f9,rfl,m3,_,_⟩:=id hb;have HP:=jz (And.intro hk hb);have e7:=jz (And.intro h7 h9);clear hk hb h7 h9;go_enter func89,ntmps89
 go_upto_region 1 with (refine al 23 _ rfl rfl eB ?_)
 obtain⟨gz,a3⟩:=je w.heap.size;obtain⟨J,e1⟩:=je (w.alloc (.cells z8x32 23));have a0:Hid (AB J gz 23 32 (c8 λ_=>0)/\Bw w J/\J.heap.size=gz+1):=jz (by
  rw[e1,a3]
  exact⟨Blk.new _ _ _,(ji _ w).alloc (ja _) _,by simp⟩)
 rw[<- e1];simp only[<- a3];have k6:=jz a3;clear e1 a3;have V:(J.alloc (.cells #[] 5)).ownsRow J.heap.size 5 1 (.slice (some ⟨J.heap.size,0,none⟩) 0 0) 0 []:=nC J #[] _ 1 0 _ _ (ja _) rfl (by decide) rfl;have b2:Sn (J.alloc (.cells #[] 5)) 1 (.slice A key.length cap) key.length (n8 key):=(HP.out.1.below a0.out.2.1).alloc _;go_upto_region 2 with (at_builtin;refine app fQ (.tmp 12) (.tmp 13) rfl (by rfl) (base:=J.heap.size) (by rfl) V (by rfl) b2 (bK key) (by unfold maxLen;omega) (by omega) (by simp) ?_;intro v5 w2 hown h0 g1)
 have c6:Bw J w2:=((ji _ J).alloc (ja _) _).grown h0 (by simp) (λg e=>by cases e;exact ja _);rw[List.nil_append,Nat.zero_add] at hown;obtain⟨A5,f6,rfl,b7,k0⟩:=aM hown;have a1:Hid (AB w2 gz 23 32 (c8 λ_=>0)/\Bw w w2/\Sn w2 1 (.slice A5 key.length f6) key.length (n8 key)/\Sn w2 1 (.slice Ab l.length f9) l.length (n8 l)):=jz (by
  have hb:=aB a0.out.2.1 c6
  exact⟨a0.out.1.keep c6,hb,b7,HP.out.2.below hb⟩)
 clear V b2 h0 g1 c6 hown k0 a0 HP b7;have U:¬(64:Int)<key.length:=by omega
 go_wp2_with fail
 obtain⟨f,hf⟩:=je (pD key);have f2:Hid (∀ k,f k=nth key k):=jz (λk=>by rw[hf];unfold pD;rw[jQ (by omega)]);have c4:Hid (aQ f):=jz (by rw[hf];exact zD e7.out.1);have HF:=jz hf;clear hf U;go_loopw [7,8,9] (λv x i wr=>∃ k:Nat,k<=64/\i = .int .i64 (k:Int)/\Hid (Io2 w2.heap.size w2 wr v x (arr k (kO 54 f)) (arr k (kO 92 f)))) (λ_ _ i _=>64-(intOf i).toNat)
 case atStart=>exact⟨0,j0 _,rfl,jz ⟨ji _ _,⟨rfl,.inl ⟨rfl,rfl⟩⟩,⟨rfl,.inl ⟨rfl,rfl⟩⟩,λk e=>by cases e⟩⟩
 case round=>
  obtain⟨k,hk,rfl,HR⟩:=hrel;obtain⟨A7,c7,m9,d7,_⟩:=aM HR.a;obtain⟨A8,c8',n0,m8,_⟩:=aM HR.b;subst m9 n0;have a5:(arr k (kO 54 f)).length=k:=aA _ _;have a6:(arr k (kO 92 f)).length=k:=aA _ _;rw[a5] at HR ⊢;rw[a6] at HR ⊢;clear d7 m8;rcases jo k 64 with p8|m5
  ·have n7:(0:Int)<=k:=by omega
   have a4:(k:Int)<64:=by omega
   obtain⟨c,hc⟩:=je (f k);have g8:c<256:=by rw[hc];exact c4 k
   have q1:=u8_xor_nat c 54 g8 (by omega);have q2:=u8_xor_nat c 92 g8 (by omega);simp only[Int.cast_ofNat_Int] at q1 q2;obtain⟨x1,a7⟩:=je (c ^^^ 54);obtain⟨x2,a8⟩:=je (c ^^^ 92);rw[<- a7] at q1;rw[<- a8] at q2;have f4:Hid (arr k (kO 54 f)++[x1]=arr (k+1) (kO 54 f)):=jz (by rw[vO,a7,hc];rfl);have f5:Hid (arr k (kO 92 f)++[x2]=arr (k+1) (kO 92 f)):=jz (by rw[vO,a8,hc];rfl);have Z:Hid (w2.heap.size<=wr.heap.size):=jz HR.be.size;rcases jo k key.length with d5|d5
   ·have h8:(k:Int)<key.length:=by omega
    have e0:=a1.out.2.2.1.below HR.be;obtain⟨b5,o5,rfl⟩:∃ b off,A5=some ⟨b,off,none⟩:=by
     obtain⟨A3,c3,e3,_,_,n1⟩:=e0;injection e3 with e3 _ _
     obtain⟨b3,o3,e4,_⟩:=n1 (by omega);exact⟨b3,o3,e3.trans e4⟩
    have m4:=e0.cellN d5;rw[<- f2.out,<- hc] at m4;have HC:=jz hc;clear hc a7 a8 e0;go_wp2_with (first
     | (at_builtin;refine app fQ (.tmp 33) (.tmp 36) rfl (by rfl) (base:=w2.heap.size) (by rfl) (HR.a.alloc _) (by rfl) (Sn.new wr #[.int .u8 (x1:Nat)] _ 1 1 rfl) (by simp[Value.oneCell']) (by rw[aA];unfold maxLen;omega) (by rw[aA];omega) (by have:=Z.out;simp;omega) ?_;intro v' w3 hown hg hat;have HI:Hid (Io2 w2.heap.size w2 w3 v' (.slice A8 k c8') (arr (k+1) (kO 54 f)) (arr k (kO 92 f))):=jz (HR.left Z _ (by have h:=hown;rw[aA] at h;rw[aA,<- f4.out,dD];exact h) hg hat);obtain⟨A9,c9,rfl,_,_⟩:=aM hown;clear hown hg hat)
     | (at_builtin;refine app fQ (.tmp 38) (.tmp 41) rfl (by rfl) (base:=w2.heap.size) (by rfl) (HI.b.alloc _) (by rfl) (Sn.new w3 #[.int .u8 (x2:Nat)] _ 1 1 rfl) (by simp[Value.oneCell']) (by rw[aA];unfold maxLen;omega) (by rw[aA];omega) (by have:=HI.be.size;simp;omega) ?_;intro n2 w4 hown hg hat;have HJ:=jz (HI.right (m':=arr (k+1) (kO 92 f)) HI.be.size _ (by have h:=hown;rw[aA] at h;rw[aA,<- f5.out,dD];exact h) hg hat);clear hown hg hat))
    exact⟨⟨k+1,by omega,by go_num,by have h:=HJ;rw[aA] at h;exact h⟩,by simp[intOf];omega⟩
   ·have h8:¬(k:Int)<key.length:=by omega
    have m2:c=0:=by rw[hc,f2.out,RZ d5]
    have HC:=jz hc;clear hc a7 a8;subst m2;simp only[Int.cast_ofNat_Int] at q1 q2;go_wp2_with (first
     | (at_builtin;refine app fQ (.tmp 33) (.tmp 36) rfl (by rfl) (base:=w2.heap.size) (by rfl) (HR.a.alloc _) (by rfl) (Sn.new wr #[.int .u8 (x1:Nat)] _ 1 1 rfl) (by simp[Value.oneCell']) (by rw[aA];unfold maxLen;omega) (by rw[aA];omega) (by have:=Z.out;simp;omega) ?_;intro v' w3 hown hg hat;have HI:Hid (Io2 w2.heap.size w2 w3 v' (.slice A8 k c8') (arr (k+1) (kO 54 f)) (arr k (kO 92 f))):=jz (HR.left Z _ (by have h:=hown;rw[aA] at h;rw[aA,<- f4.out,dD];exact h) hg hat);obtain⟨A9,c9,rfl,_,_⟩:=aM hown;clear hown hg hat)
     | (at_builtin;refine app fQ (.tmp 38) (.tmp 41) rfl (by rfl) (base:=w2.heap.size) (by rfl) (HI.b.alloc _) (by rfl) (Sn.new w3 #[.int .u8 (x2:Nat)] _ 1 1 rfl) (by simp[Value.oneCell']) (by rw[aA];unfold maxLen;omega) (by rw[aA];omega) (by have:=HI.be.size;simp;omega) ?_;intro n2 w4 hown hg hat;have HJ:=jz (HI.right (m':=arr (k+1) (kO 92 f)) HI.be.size _ (by have h:=hown;rw[aA] at h;rw[aA,<- f5.out,dD];exact h) hg hat);clear hown hg hat))
    exact⟨⟨k+1,by omega,by go_num,by have h:=HJ;rw[aA] at h;exact h⟩,by simp[intOf];omega⟩
  ·have U:k=64:=by omega
   have p6:¬(k:Int)<64:=by omega
   subst U;have k3:=a1.out.2.2.2.below HR.be;have HSB:=jz k3;obtain⟨B,hB⟩:=je w2.heap.size;rw[<- hB] at HR;have e6:=jz hB;have HBS:Hid (B<=wr.heap.size):=jz (by have:=HR.be.size;omega);clear hB k3 m5 hk;obtain⟨f7,O⟩:=je (arr 64 (kO 54 f));obtain⟨f8,R⟩:=je (arr 64 (kO 92 f));rw[<- O,<- R] at HR;have a5:f7.length=64:=by rw[O];exact aA _ _
   have a6:f8.length=64:=by rw[R];exact aA _ _
   have a9:Hid (Byn f7/\Byn f8):=jz (by rw[O,R];exact⟨eH (zF (by omega) c4),eH (zF (by omega) c4)⟩);have m1:Hid (d6 key l=iD (f8++iD (f7++l))):=jz (by rw[O,R,HF.out];rfl);have HRA:Hid (wr.ownsRow B 5 1 (.slice A7 64 c7) 64 (n8 f7)/\wr.ownsRow B 5 1 (.slice A8 64 c8') 64 (n8 f8)):=jz (by have h1:=HR.a;have h2:=HR.b;rw[a5] at h1;rw[a6] at h2;exact⟨h1,h2⟩);clear O R;obtain⟨d1,K⟩:=je (iD (f7++l));obtain⟨d2,a2⟩:=je (iD (f8++d1));have D:d1.length=32:=by rw[K];exact bL _
   have I:d2.length=32:=by rw[a2];exact bL _
   have k7:Hid (d6 key l=d2):=jz (by rw[m1.out,a2,K]);have e8:Hid (∀ W v,Sn W 1 v (f7++l).length (n8 (f7++l))->Wc 144 #[v] W (Rt W (.agg (n8 d1).toArray))):=jz (λW v h=>by
    rw[K]
    exact DA v (f7++l) W h (λx hx=>(List.mem_append.1 hx).elim (a9.out.1 x) (e7.out.2 x)) (by rw[jj];omega))
   have HC2:Hid (∀ W v,Sn W 1 v (f8++d1).length (n8 (f8++d1))->Wc 144 #[v] W (Rt W (.agg (n8 d2).toArray))):=jz (λW v h=>by
    rw[a2]
    exact DA v (f8++d1) W h (λx hx=>(List.mem_append.1 hx).elim (a9.out.2 x) (by rw[K];exact gV _ x)) (by rw[jj];omega))
   have a4:(prog.info? 23).map (·.size)=some (n8 d1).toArray.size:=by rw[js,aJ,D];kernel_rfl
   have d4:(prog.info? 23).map (·.size)=some (n8 d2).toArray.size:=by rw[js,aJ,I];kernel_rfl
   have k4:z8x32.size=(n8 d1).toArray.size:=by rw[show(n8 d1).toArray.size=32 from by rw[js,aJ,D]];exact aC 32 _
   have k5:z8x32.size=(n8 d2).toArray.size:=by rw[show(n8 d2).toArray.size=32 from by rw[js,aJ,I]];exact aC 32 _
   have k1:=all_oneCell_toArray (bK d1);have k2:=all_oneCell_toArray (bK d2);obtain⟨O1,d0⟩:=je ((n8 d1).toArray);obtain⟨O2,d3⟩:=je ((n8 d2).toArray);rw[<- d0] at a4 k4 k1 e8;rw[<- d3] at d4 k5 k2 HC2;have f3:=jz (And.intro d0 d3);have c5:=jz (And.intro a4 d4);have c2:=jz (And.intro D I);clear K a2 d0 d3 a4 d4 D I;go_upto_region 16 with (first
    | (at_builtin;refine app fQ (.tmp 43) (.tmp 44) rfl (by rfl) (base:=B) (by rfl) HRA.out.1 (by rfl) HSB (bK l) (by unfold maxLen;omega) (by omega) HBS ?_;intro v9 w5 hown hg hat;have HW5:Hid (Below B w2 w5/\w5.ownsRow B 5 1 v9 (f7++l).length (n8 (f7++l))/\w5.ownsRow B 5 1 (.slice A8 64 c8') 64 (n8 f8)):=jz ⟨HR.be.grown hg HBS (λk hk=>(HRA.out.1.lt k hk).1),by rw[jj,a5,dD];exact hown,pK HRA.out.2 (λk hk=>hg.block k (HRA.out.2.lt k hk).2 (λe=>HR.ap k e.symm hk))⟩;obtain⟨A9,c9,rfl,_,_⟩:=aM hown;clear hown hg hat)
    | (go_at_call 144;refine(e8 w5 _ (Sn.own HW5.out.2.1)).mono ?_;rintro e w6 ⟨rfl,g2⟩;have e5:=jz g2;clear g2)
    | (refine al 23 _ rfl rfl eB ?_)
    | (refine bQ (cells:=O1) 23 (.tmp 11) (.tmp 46) rfl rfl (by rfl) (by rfl) c5.out.1 k4 k1 ?_;intro w7 g0 g3 d7;have b9:=jz g0;have f1:=jz g3;clear g0 g3 d7))
   obtain⟨g6,h6⟩:=je w6.heap.size;rw[<- h6] at b9 ⊢;have HB8:Hid (Bw w5 w7/\Sn w7 1 (.slice (some ⟨g6,0,none⟩) 32 32) 32 (n8 d1)):=jz ⟨aB e5 f1,by
    have h:=b9.out
    rw[f3.out.1] at h
    have h2:=Blk.range h
    rw[jt] at h2
    have h3:=xQ 32 c2.out.1 h2
    rw[c2.out.1] at h3
    exact h3⟩
   clear h6 e5 b9 f1;have m6:(f8++d1).length=64+32:=by rw[jj,a6,c2.out.1]
   have HW7:Hid (w7.ownsRow B 5 1 (.slice A8 64 c8') 64 (n8 f8)/\Below B w2 w7/\B<=w7.heap.size):=jz (by
    have h1:=HW5.out.1.size
    have h2:=HB8.out.1.size
    have h4:=e6.out
    exact⟨aE HW5.out.2.2 HB8.out.1,HW5.out.1.trans (HB8.out.1.mono (by omega)),by omega⟩)
   go_wp2_with (first
    | (at_builtin;refine app fQ (.tmp 47) (.tmp 48) rfl (by rfl) (base:=B) (by rfl) HW7.out.1 (by rfl) HB8.out.2 (bK d1) (by unfold maxLen;omega) (by omega) HW7.out.2.2 ?_;intro v10 w8 hown hg hat;have HW8:Hid (Below B w2 w8/\w8.ownsRow B 5 1 v10 (f8++d1).length (n8 (f8++d1))):=jz ⟨HW7.out.2.1.grown hg HW7.out.2.2 (λk hk=>(HW7.out.1.lt k hk).1),by rw[m6,dD];exact hown⟩;obtain⟨n4,n6,rfl,_,_⟩:=aM hown;clear hown hg hat)
    | (go_at_call 144;refine(HC2 w8 _ (Sn.own HW8.out.2)).mono ?_;rintro e w9 ⟨rfl,hb9⟩;have HB9:Hid (AB w9 gz 23 32 (c8 λ_=>0)/\Bw w w9):=jz (by have h:Bw w2 w9:=(by have h4:=e6.out;have h5:=HW8.out.1;rw[h4] at h5;exact aB h5 hb9);exact⟨a1.out.1.keep h,aB a1.out.2.1 h⟩);clear hb9)
    | (refine aN (cells:=O2) 23 (.tmp 4) (.tmp 50) rfl rfl (by rfl) (by rfl) HB9.out.1 c5.out.2 k5 k2 ?_;intro p9 b0 b1 _ _;have e2:=jz b0;have f0:=jz b1;clear b0 b1))
   exact bodyPost_ret (results_cell_row rfl _ _ gz 23 _ (0,0) _ rfl e2 underlying23 rfl c5.out.2) rfl ⟨by rw[k7.out,<- f3.out.2],HB9.out.2.trans (f0.mono (by rw[k6.out];exact ja _))⟩
end Go.Proofs.YtjjlaipkkdncfaaGreatDoor
