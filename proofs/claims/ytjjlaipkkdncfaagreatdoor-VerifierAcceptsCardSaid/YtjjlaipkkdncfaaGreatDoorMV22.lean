import Derived.Test.YtjjlaipkkdncfaaGreatDoorMV16
import Derived.Test.YtjjlaipkkdncfaaGreatDoorMV20
import Derived.Laws.RangeAny
set_option linter.unusedVariables false
set_option linter.unusedSimpArgs false
set_option maxRecDepth 100000
set_option maxHeartbeats 40000000
namespace Go.Proofs.YtjjlaipkkdncfaaGreatDoor
open Go.Proofs.Tryz
section
open Go.RowKit
section
variable {P : Program} {w : Wd}
end
end
section
open Go.RowKit
attribute [local irreducible] wpQuiet wpAnyH
def WC(g:Nat):Value:=.func (.func 253) #[] #[.pointer (some ⟨g,0,none⟩),.pointer (some ⟨g+1,0,none⟩),.pointer (some ⟨g+1+1,0,none⟩)]
structure IXc(w W:Wd)(g:Nat)(key nn:Nat->Nat)(i:Nat):Prop where
 be:Bw w W
 lo:w.heap.size<=g
 k:AB W g 41 16 (c8 key)
 n:AB W (g+1) 100 8 (c8 nn)
 i:Blk W (g+1+1) 181 #[.int .u64 (i:Nat)]
theorem E9(key nn:Nat->Nat)(i:Nat)(w:Wd):Wc 248 #[.agg (arr 16 (c8 key)).toArray,.agg (arr 8 (c8 nn)).toArray,.int .u64 (i:Nat)] w λe w'=>e = .returned (WC w.heap.size)/\IXc w w' w.heap.size key nn i:=by
 have K:∀(fn:Fn) (first cap:Wa) (w:Wd),(Instr.makeFunc fn first cap).run prog w = .ok (.func fn first cap) w:=λ_ _ _ _=>rfl
 go_enter func248,ntmps248
 go_upto_region 1 with fail
 obtain⟨g,hg⟩:=je w.heap.size;obtain⟨O,D⟩:=je (((w.alloc (.cells (arr 16 (c8 key)).toArray 41)).alloc (.cells (arr 8 (c8 nn)).toArray 100)).alloc (.cells #[.int .u64 (i:Nat)] 181));have J:Hid (IXc w O g key nn i):=jz (by
  rw[D,hg]
  exact⟨(((ji _ w).alloc (ja _) _).alloc (by simp) _).alloc (by simp;omega) _,ja _,((Blk.new _ _ _).alloc _).alloc _,(Blk.newAt _ _ _ _ (by simp)).alloc _,Blk.newAt _ _ _ _ (by simp)⟩)
 have I:=jz hg;rw[<- D];simp only[World.size_alloc,<- hg];clear D hg;go_wp2_with fail
 go_ret;exact⟨by rw[<- I.out];rfl,by rw[<- I.out];exact J⟩
def IC(key nn:Nat->Nat)(i:Nat):Wa:=#[.agg (arr 16 (c8 (dV key (dQ nn i)))).toArray]
def XBc(g:Nat):bW:=λk=>k=g\/k=g+1\/k=g+1+1
def ZBc(g:Nat):bW:=λk=>k=g+1+1
structure CIt(g:Nat)(key nn:Nat->Nat)(i:Nat)(T:bW)(W:Wd):Prop where
 k:AB W g 41 16 (c8 key)
 n:AB W (g+1) 100 8 (c8 nn)
 i:Blk W (g+1+1) 181 #[.int .u64 (i:Nat)]
 nT:∀ k,T k->¬XBc g k
def NX(W:Wd)(g:Nat):Nat:=match W.cell? ⟨g+1+1,0,none⟩ with
 | some (.int _ z)=>z.toNat
 | _=>0
theorem CIt.cnt{g i:Nat}{key nn:Nat->Nat}{T:bW}{W:Wd}(h:CIt g key nn i T W):NX W g=i:=by
 unfold NX;rw[h.i.cell 0];simp
theorem J7(D m k:Nat)(h:k<m):List.range' D k++[D+k] <+: List.range' D m:=by
 have e:List.range' D k++[D+k]=List.range' D (k+1):=by rw[List.range'_concat];simp
 rw[e];refine⟨List.range' (D+(k+1)) (m-(k+1)),?_⟩;have:=List.range'_append_1 (s:=D) (m:=k+1) (n:=m-(k+1));rw[this];congr 1;omega
theorem Turn.blkC{T I:bW}{W W':Wd}{g t:Nat}{cs:Wa}(h:Turn T W I W')(D:Blk W g t cs)(J:¬T g):Blk W' g t cs:=(h.block g D.lt J).trans D
theorem RO(key nn:Nat->Nat)(I m g:Nat)(w:Wd)(a1:aQ key)(b3:aQ nn)(hi:I+m<18446744073709551616)(h1:AB w g 41 16 (c8 key))(h2:AB w (g+1) 100 8 (c8 nn))(h3:Blk w (g+1+1) 181 #[.int .u64 (I:Nat)]):
  LY True Fence.wide 9 prog 253 #[.pointer (some ⟨g,0,none⟩),.pointer (some ⟨g+1,0,none⟩),.pointer (some ⟨g+1+1,0,none⟩)] (IC key nn) (XBc g) (ZBc g) (List.range' I m) w:=by
 intro ly J Jx T0 W hW d1 d2 hJ d0 d4 hY b1 h0 a0;have a5:Hid (CIt g key nn I T0 W):=jz ⟨h1.keep hW,h2.keep hW,h3.keep hW,b1⟩;have c6:Hid (∀ k,k=ly->¬XBc g k):=jz (by
  have:=h3.lt
  rintro k rfl (h|h|h) <;> omega)
 have a7:=jz h0;have a6:=jz (λT W=>a0 trivial T W);have c4:=jz a1;have c5:=jz b3;have a8:=jz hJ;have d3:Hid (g+1+1<W.heap.size):=jz (jp h3.lt hW.size);clear h1 h2 h3 b1 h0 a0 a1 b3 hJ d0;refine callsIn_of_wp func253 rfl trivial ?_ rfl;simp only[ntmps253,js,List.length_cons,List.length_nil,Nat.reduceAdd,Nat.reduceSub,Array.replicate_succ,Array.replicate_zero,List.push_toArray,List.append_toArray,List.nil_append,List.cons_append];refine wpIn_wide.2 ?_;go_wp2_with fail
 go_loopw [11] (λu wr=>∃(k:Nat) (T:bW),k<=m/\Hid (J (List.range' I k) T wr)/\Hid (CIt g key nn (I+k) T wr)/\Hid (W.heap.size<=wr.heap.size)) (λ_ wr=>I+m-NX wr g)
 case atStart=>exact⟨0,T0,j0 _,a7,a5,jz (ja _)⟩
 case round=>
  clear a7 a5;obtain⟨k,T,hk,HJ,HI,HS⟩:=hrel;have b2:k<m:=Nat.lt_of_le_of_ne hk (λe=>by
   subst e
   exact a6 _ _ HJ)
  have U:=jz (J7 I m k b2);obtain⟨q,hq⟩:=je (I+k);have d5:q+1<18446744073709551616:=by omega
  have R:Hid (List.range' I k++[q]=List.range' I (k+1)/\q+1=I+(k+1)/\q<I+m):=jz ⟨by rw[hq,List.range'_concat];simp,by omega,by omega⟩;rw[<- hq] at HI U;have b9:=jz HI.cnt;have HK:=jz HI.k.range;have HN:=jz HI.n.range;have a2:=jz (J3 key nn q wr c4 c5 (by omega));have c0:=HI.i.cell 0;simp only[jf,jg] at c0;obtain⟨e,he⟩:=je ((arr 16 (c8 (dV key (dQ nn q)))).toArray);have HE:=jz he;have c2:Hid ((prog.info? 41).map (·.size)=some (arr 16 (c8 key)).length):=jz (by rw[aA];kernel_rfl);have c3:Hid ((prog.info? 100).map (·.size)=some (arr 8 (c8 nn)).length):=jz (by rw[aA];kernel_rfl);rw[<- he] at a2;clear he hq;refine(wpIn_wide (n:=9)).1 ?_;gi_wp2_with (first
   | (refine iLd 41 (.tmp 1) rfl y6 rfl rfl HK underlying41 rfl c2 ?_)
   | (refine iLd 100 (.tmp 2) rfl y6 rfl rfl HN underlying100 rfl c3 ?_))
  refine⟨trivial,(callsIn_wide.2 a2).mono ?_⟩;rintro _ w1 ⟨rfl,O⟩;have b0:J (List.range' I k) T w1:=a8.out _ _ _ _ HJ (Lies.of_below O);obtain⟨fn,tmps,b7,body,hy,hR⟩:=hY _ _ T w1 U b0;dsimp only [IC] at hy;rw[<- HE.out] at hy;have D:Hid (CIt g key nn q T w1):=jz ⟨HI.k.keep O,HI.n.keep O,HI.i.keep O,HI.nT⟩;have a4:Hid (W.heap.size<=w1.heap.size):=jz (jm HS O.size);clear O b0 a2 c0 HK HN HI HS HJ HE;gi_wp2_with fail
  refine hR.mono ?_;rintro _ wD ⟨T',hT,⟨rfl,V⟩|⟨rfl,V⟩⟩
  ·have Z:∀ k,(T k\/k=ly)->¬XBc g k:=λj h hx=>h.elim (λh=>D.nT j h hx) (λe=>c6.out j e hx)
   have c7:Hid (W.heap.size<=wD.heap.size):=jz (jm a4 hT.size);have K:Hid (CIt g key nn q T' wD):=jz ⟨hT.blkC D.k (λh=>Z _ h (.inl rfl)),hT.blkC D.n (λh=>Z _ h (.inr (.inl rfl))),hT.blkC D.i (λh=>Z _ h (.inr (.inr rfl))),
    λj hj hx=>(hT.sub j hj).elim (λh=>Z j h hx) (λh=>by
     have h1:=D.k.lt
     have h2:=D.n.lt
     have h3:=D.i.lt
     rcases hx with hx|hx|hx <;> omega)⟩
   have a3:=jz V;clear hR hy hT Z V hY D a4;have c0:=K.i.cell 0;simp only[jf,jg] at c0;have f0:=K.i.frozen 0;gi_wp2_with fail
   go_wp2_with fail
   have c9:J (List.range' I (k+1)) T' (wD.setCell ⟨g+1+1,0,none⟩ (.int .u64 ((q:Int)+1))):=by
    rw[<- R.out.1];exact a8 _ _ _ _ a3 (Lies.setCell _ _ _ _ (λh=>h.elim (λh=>K.nT _ h (.inr (.inr rfl))) (λh=>h.2 rfl)) _)
   have a9:CIt g key nn (I+(k+1)) T' (wD.setCell ⟨g+1+1,0,none⟩ (.int .u64 ((q:Int)+1))):=by
    rw[<- R.out.2.1];exact⟨K.k.far (p:=⟨g+1+1,0,none⟩) (by show g≠g+1+1;omega) _,K.n.far (p:=⟨g+1+1,0,none⟩) (by show g+1≠g+1+1;omega) _,by have:=Blk.set_ (show Blk wD (g+1+1) 181 #[.int .u64 (q:Nat)] from K.i) 0 (.int .u64 ((q:Int)+1));simpa using this,K.nT⟩
   have hm:I+m-NX (wD.setCell ⟨g+1+1,0,none⟩ (.int .u64 ((q:Int)+1))) g<I+m-NX wr g:=by
    rw[a9.cnt,b9.out];have:=R.out;omega
   exact⟨⟨k+1,T',b2,jz c9,jz a9,jz (by simpa using c7.out)⟩,hm⟩
  ·have a3:=jz V;clear hR hy hT V hY D a4;gi_wp2_with fail
   go_wp2_with fail
   go_end0
   exact⟨⟨_,rfl⟩,T',.inr ⟨_,U,a3⟩⟩
def hd3:Wa:=#[.int .u8 65,.int .u8 80,.int .u8 1]
def z3:Wa:=#[.int .u8 0,.int .u8 0,.int .u8 0]
theorem NY(w:Wd):Wc 111 #[] w (Rt w (.agg hd3)):=by
 go_enter func111,ntmps111
 go_wp2
 exact bodyPost_ret (results_cell_row (P:=prog) rfl _ _ w.heap.size _ hd3 (0,0) _ rfl (heap_alloc_new w _) underlying211 rfl (by kernel_rfl)) rfl ⟨rfl,(ji _ w).alloc (ja _) _⟩
def rdH(b:Wl):Nat->RdS
 | 0=>(b,false)
 | k+1=>(aF 1 (rdH b k)).2
def hdN(k:Nat):Nat:=if k=0 then 65 else if k=1 then 80 else 1
def dK(b:Wl):Wl×Wl×Bool:=
 if 65536<b.length then ([],[],false) else
 if (aF 1 (rdH b 0)).1≠hdN 0 then ([],[],false) else
 if (aF 1 (rdH b 1)).1≠hdN 1 then ([],[],false) else
 if (aF 1 (rdH b 2)).1≠hdN 2 then ([],[],false) else
 if fU (aX 2 (aX 2 (rdH b 3)).2).2 then ((aX 2 (rdH b 3)).1,(aX 2 (aX 2 (rdH b 3)).2).1,true) else ([],[],false)
theorem qV{b:Wl}(hb:Bys b)(D:b.length<=1000000):∀ k,RdOk (rdH b k)
 | 0=>⟨hb,D⟩
 | k+1=>(qV hb D k).num 1
theorem NZ{b:Wl}(k:Nat)(I:k<3)(J:b.length<=65536)(h:(aF 1 (rdH b k)).1≠hdN k):dK b=([],[],false):=by
 have D:k=0\/k=1\/k=2:=by omega
 unfold dK;rw[jQ (by omega)];rcases D with rfl|rfl|rfl
 ·rw[jP h]
 ·by_cases h0:(aF 1 (rdH b 0)).1≠hdN 0
  ·rw[jP h0]
  ·rw[jQ h0,jP h]
 ·by_cases h0:(aF 1 (rdH b 0)).1≠hdN 0
  ·rw[jP h0]
  ·by_cases h1:(aF 1 (rdH b 1)).1≠hdN 1
   ·rw[jQ h0,jP h1]
   ·rw[jQ h0,jQ h1,jP h]
theorem ID{b:Wl}(D:b.length<=65536)(h:∀ k,k<3->(aF 1 (rdH b k)).1=hdN k):dK b=if fU (aX 2 (aX 2 (rdH b 3)).2).2 then ((aX 2 (rdH b 3)).1,(aX 2 (aX 2 (rdH b 3)).2).1,true) else ([],[],false):=by
 unfold dK;rw[jQ (by omega),jQ (by have:=h 0 (by omega);exact λe=>e this),jQ (by have:=h 1 (by omega);exact λe=>e this),jQ (by have:=h 2 (by omega);exact λe=>e this)]
theorem WW(k:Nat)(I:k<3)(W:Wd):(Instr.index 211 (.agg #[.int .u8 65,.int .u8 80,.int .u8 1]) (.int .i64 (k:Int))).run prog W = .ok (.int .u8 ((hdN k:Nat):Int)) W:=by
 refine fA _ k underlying211 I (λw=>by kernel_rfl) (λw=>by kernel_rfl) ?_ W;have D:k=0\/k=1\/k=2:=by omega
 rcases D with rfl|rfl|rfl <;> rfl
theorem RP{w w':Wd}{g n c:Nat}{t:TypeId}{A:Option Addr}{R:Wl}(h:Sn w 1 (.slice A n c) n (u8s R))(U:Blk w g t #[.slice none 0 0,.slice none 0 0])(_:True)(ho:Off g w w'):Sn w' 1 (.slice A n c) n (u8s R):=by
 obtain⟨A',cap,hv,V,Z,hx⟩:=h;injection hv with h1 h2 h3
 subst h1 h3;refine⟨A,c,rfl,V,Z,λhp=>?_⟩;obtain⟨b,off,rfl,D⟩:=hx hp;refine⟨b,off,rfl,λj u I=>ho.cell (D j u I) (λe=>?_)⟩;have J:=D j u I;have e:b=g:=e;subst e;rw[U.cell] at J;have O:∃ z,u = .int .u8 z:=by
  unfold u8s at I;rw[List.getElem?_map,Option.map_eq_some_iff] at I;obtain⟨z,_,rfl⟩:=I;exact⟨z,rfl⟩
 obtain⟨z,rfl⟩:=O;have a0:off+j<2:=by
  have:=(Array.getElem?_eq_some_iff.1 J).1;exact this
 have K:off+j=0\/off+j=1:=by omega
 rcases K with K|K <;> (rw[K] at J;cases J)
def RQ(w:Wd)(r:Wl×Wl×Bool)(e:Ending)(w':Wd):Prop:=∃ A ca B cb,e = .returned (.tuple #[.agg #[.slice A r.1.length ca,.slice B r.2.1.length cb],.bool r.2.2])/\Sn w' 1 (.slice A r.1.length ca) r.1.length (u8s r.1)/\Sn w' 1 (.slice B r.2.1.length cb) r.2.1.length (u8s r.2.1)/\Bw w w'/\(∀ b o,A=some ⟨b,o,none⟩->w.heap.size<=b)/\∀ b o,B=some ⟨b,o,none⟩->w.heap.size<=b
theorem uZ{w w':Wd}{r:Wl×Wl×Bool}(h:r=([],[],false))(hb:Bw w w'):RQ w r (.returned (.tuple #[.agg #[.slice none 0 0,.slice none 0 0],.bool false])) w':=by
 subst h;exact⟨none,0,none,0,rfl,⟨none,0,rfl,ja _,rfl,λh=>absurd h (by simp)⟩,⟨none,0,rfl,ja _,rfl,λh=>absurd h (by simp)⟩,hb,(λb o h=>by cases h),λb o h=>by cases h⟩
def J8:Wa:=#[.slice none 0 0,.slice none 0 0]
theorem vC(b:Wl)(A:Option Addr)(cap:Nat)(w:Wd)(hs:Sn w 1 (.slice A b.length cap) b.length (u8s b))(hb:Bys b)(hl:b.length<=1000000):
  Wc 74 #[.slice A b.length cap] w (RQ w (dK b)):=by
 have HR:=jz (JV (.slice A b.length cap) b);have HS:=jz hs;have a1:=jz (qV hb hl);obtain⟨n,hn⟩:=je b.length;rw[<- hn] at HR HS;have HL:=jz hl;clear hs hb hl;rcases jo 65536 b.length with b9|k4
 ·have HB:Hid (dK b=([],[],false)):=jz (by unfold dK;rw[jP b9]);rw[<- hn] at b9 ⊢;clear hn;have t1:(65536:Int)<n:=by omega
  go_enter func74,ntmps74
  go_wp2
  refine bodyPost_ret (aD (P:=prog) rfl _ rfl (cs:=[.slice none 0 0,.slice none 0 0]) (Blk.new w 156 J8).range underlying156 rfl (by kernel_rfl)) rfl ?_;exact uZ HB ((ji _ w).alloc (ja _) _)
 ·rw[<- hn] at k4 ⊢;have b1:=jz (λk hk=>NZ (b:=b) k hk (by omega));have e8:=jz (ID (b:=b) (by omega));have HN:=jz hn;clear hn;have t1:¬(65536:Int)<n:=by omega
  go_enter func74,ntmps74
  go_upto_region 3 with fail
  obtain⟨w1,a9⟩:=je (w.alloc (.cells J8 156));obtain⟨K,d3⟩:=je w.heap.size;have c4:Hid (Bw w w1):=jz (by rw[a9];exact(ji _ w).alloc (ja _) _);have e4:Hid (Blk w1 K 156 J8):=jz (by rw[a9,d3];exact Blk.new _ _ _);have a2:Hid (w.heap.size<=K):=jz (by omega);have f9:w.alloc (.cells #[.slice none 0 0,.slice none 0 0] 156)=w1:=a9.symm;rw[f9,<- d3];clear a9 f9 d3;go_wp2_with fail
  refine(HR w1 (HS.below c4) (by have:=HN.out;have:=HL.out;omega)).mono ?_;rintro e w2 ⟨r,rfl,f6,f8,d2⟩;have f2:=jz f6;have Z:Hid (w.heap.size<=r/\K≠r):=jz ⟨jm c4.size f8,by have:=e4.lt;omega⟩;have e5:=jz (e4.keep d2);have e2:=jz (aB c4 d2);clear f6 f8 d2 HR;go_wp2_with fail
  refine(NY w2).mono ?_;rintro e w3 ⟨rfl,a8⟩;have V:=jz (f2.keep a8);have a3:=jz (e5.keep a8);have I:=jz (aB e2 a8);clear a8;unfold hd3;go_wp2_with fail
  go_loopw [15] (λi wr=>∃ k:Nat,k<=3/\i = .int .i64 k/\Hid (RDR wr r (rdH b k))/\Hid (Blk wr K 156 J8)/\Hid (Bw w wr)/\Hid (∀ j,j<k->(aF 1 (rdH b j)).1=hdN j)) (λi _=>3-(intOf i).toNat)
  case atStart=>exact⟨0,by omega,rfl,V,a3,I,jz (λj hj=>by omega)⟩
  case round=>
   clear f2 e5 e2 V a3 I;obtain⟨k,hk,rfl,V,a3,I,HA⟩:=hrel;rcases jo k 3 with c3|k7
   ·have c6:=jz (E0 1 V (a1 k) (by omega) (by omega));have k2:=λW=>WW k c3 W
    have hh:hdN k<256:=by unfold hdN;split <;> (try split) <;> omega
    obtain⟨h,d5⟩:=je (hdN k);rw[<- d5] at k2 hh;obtain⟨x,hx⟩:=je ((aF 1 (rdH b k)).1);rw[<- hx] at c6;have e3:=jz d5;have HX:=jz hx;have m1:(0:Int)<=k:=by omega
    have m2:(k:Int)<3:=by omega
    clear d5 hx;go_upto_region 7 with fail
    go_wp2_with fail
    refine c6.mono ?_;rintro e w4 ⟨ho,a0,rfl⟩;have a7:=jz a0;have D:=jz (ho.blk a3 Z.out.2);have U:=jz (I.trans (ho.below Z.out.1 I.size));clear ho a0 c6;by_cases hxh:x=h
    ·subst hxh;have t2:((x:Int) == (x:Int))=true:=beq_self_eq_true _;have g3:Hid (∀ j,j<k+1->(aF 1 (rdH b j)).1=hdN j):=jz (λj hj=>by
      rcases jo j k with h1|h1
      ·exact HA j h1
      ·obtain rfl:j=k:=by omega
       rw[<- HX.out,<- e3.out])
     go_wp2_with fail
     exact⟨⟨k+1,by omega,by go_num,a7,D,U,g3⟩,by simp[intOf];omega⟩
    ·have m3:¬(x:Int)=(h:Int):=by omega
     have h0:Hid (dK b=([],[],false)):=jz (b1 k c3 (by rw[<- HX.out,<- e3.out];exact hxh));have c0:=D.cell 0;have c1:=D.cell 1;have f0:=D.frozen 0;have f1:=D.frozen 1;simp only[J8,jf,jh,jg] at c0 c1;go_wp2_with fail
     have k3:=(D.set_ 0 (.slice none 0 0)).set_ 1 (.slice none 0 0);have h8:=(U.setCell a2 (.slice none 0 0) (p:=⟨K,0,none⟩)).setCell a2 (.slice none 0 0) (p:=⟨K,1,none⟩);refine bodyPost_ret (aD (P:=prog) rfl _ rfl (cs:=[.slice none 0 0,.slice none 0 0]) k3.range underlying156 rfl (by kernel_rfl)) rfl ?_;exact uZ h0 h8
   ·obtain rfl:k=3:=by omega
    have a4:=jz (e8 HA);have c7:=jz (uN 2 V (a1 3) (by omega) (by omega));have a6:=jz ((a1 3).str 2);have h4:=jz (iQ (a1 3) 2);obtain⟨x1,g0⟩:=je (aX 2 (rdH b 3));rw[<- g0] at c7 a6 a4 h4;clear g0 b1 e8 a1;go_wp2_with fail
    refine c7.mono ?_;rintro e w4 ⟨ho,a0,y1,rfl,O,a5⟩;obtain⟨A1,c1,rfl,_⟩:=id O;have a7:=jz a0;have D:=jz (ho.blk a3 Z.out.2);have U:=jz (I.trans (ho.below Z.out.1 I.size));have f3:=jz O;have h2:Hid (∀ b o,A1=some ⟨b,o,none⟩->w.heap.size<=b):=jz (λb o e=>jm I.size (a5 b (by rw[e];rfl)));have c9:=jz (uN 2 a0 a6 (by omega) (by omega));have h6:=jz (a6.str 2);have h5:=jz (iQ a6 2);obtain⟨x2,g1⟩:=je (aX 2 x1.2);rw[<- g1] at c9 h6 a4 h5;clear g1 ho a0 O a5 c7 V;go_wp2_with fail
    refine c9.mono ?_;rintro e w5 ⟨ho,f7,y2,rfl,O,a5⟩;obtain⟨A2,c2,rfl,_⟩:=id O;have e6:=jz (ho.blk D Z.out.2);have g8:=jz (U.trans (ho.below Z.out.1 U.size));have f4:=jz O;have h3:Hid (∀ b o,A2=some ⟨b,o,none⟩->w.heap.size<=b):=jz (λb o e=>jm U.size (a5 b (by rw[e];rfl)));have b7:Hid (Sn w5 1 (.slice A1 x1.1.length c1) x1.1.length (u8s x1.1)):=jz (a7.sn f3 ho);have h7:=jz f7;obtain⟨z,hz⟩:=je (fU x2.2);rw[<- hz] at a4;have HZ:=jz hz;clear hz ho f7 O a5 c9 a7 f3 D;have k5:w5.heap.size=w5.heap.size:=rfl;obtain⟨n1,e0⟩:=je x1.1.length;obtain⟨n2,e1⟩:=je x2.1.length;have b2:=jz e0;have b3:=jz e1;rw[<- e0] at b7 ⊢;rw[<- e1] at f4 ⊢;clear e0 e1 k5;go_upto_region 11 with fail
    obtain⟨w6,b0⟩:=je (w5.alloc (.cells #[.slice A1 n1 c1,.slice A2 n2 c2] 156));obtain⟨g7,d4⟩:=je w5.heap.size;have R:Hid (Bw w5 w6):=jz (by rw[b0];exact(ji _ _).alloc (ja _) _);have e7:Hid (Blk w6 g7 156 #[.slice A1 n1 c1,.slice A2 n2 c2]):=jz (by rw[b0,d4];exact Blk.new _ _ _);have k6:Hid (K≠g7):=jz (by have:=e6.lt;omega);rw[<- b0,<- d4];clear b0 d4;have J:=jz (e6.keep R);have HD:=jz (M4 (h7.keep R));rw[<- HZ.out] at HD;have k0:=J.cell 0;have k1:=J.cell 1;have f0:=J.frozen 0;have f1:=J.frozen 1;have d0:=e7.cell 0;have d1:=e7.cell 1;simp only[J8,jf,jh,jg] at k0 k1 d0 d1;have c5:=jz (aB g8 R);cases z with
    | true=>
     have HF:Hid (dK b=(x1.1,x2.1,true)):=jz (by rw[a4.out,jP rfl]);go_wp2_with fail
     refine HD.mono ?_;rintro e wq ⟨rfl,rfl⟩;go_wp2_with fail
     have d7:=(J.set_ 0 (.slice A1 n1 c1)).set_ 1 (.slice A2 n2 c2);have f5:Off K w6 ((w6.setCell ⟨K,0,none⟩ (.slice A1 n1 c1)).setCell ⟨K,1,none⟩ (.slice A2 n2 c2)):=((Off.refl K w6).set 0 _).set 1 _;refine bodyPost_ret (aD (P:=prog) rfl _ rfl (cs:=[.slice A1 n1 c1,.slice A2 n2 c2]) d7.range underlying156 rfl (by kernel_rfl)) rfl ?_;unfold RQ;rw[HF.out];have hq:∀ {A c n} {xs:Wl},Sn w5 1 (.slice A n c) n (u8s xs)->Sn ((w6.setCell ⟨K,0,none⟩ (.slice A1 n1 c1)).setCell ⟨K,1,none⟩ (.slice A2 n2 c2)) 1 (.slice A n c) n (u8s xs):=λh=>RP (h.below R) J trivial f5
     refine⟨A1,c1,A2,c2,?_,?_,?_,c5.trans (f5.below a2 c5.size),h2,h3⟩
     ·rw[<- b2.out,<- b3.out];rfl
     ·rw[<- b2.out];exact hq b7.out
     ·rw[<- b3.out];exact hq f4.out
    | false=>
     have HF:Hid (dK b=([],[],false)):=jz (by rw[a4.out,jQ (by simp)]);go_wp2_with fail
     refine HD.mono ?_;rintro e wq ⟨rfl,rfl⟩;go_wp2_with fail
     have d7:=(J.set_ 0 (.slice none 0 0)).set_ 1 (.slice none 0 0);have h9:=(c5.setCell a2 (.slice none 0 0) (p:=⟨K,0,none⟩)).setCell a2 (.slice none 0 0) (p:=⟨K,1,none⟩);refine bodyPost_ret (aD (P:=prog) rfl _ rfl (cs:=[.slice none 0 0,.slice none 0 0]) d7.range underlying156 rfl (by kernel_rfl)) rfl ?_;exact uZ HF h9
def bOk(b:UInt8):Bool:=decide (33<=b.toNat) && decide (b.toNat<=126)
def eD(s:List UInt8):Bool:=decide (1<=s.length) && (decide (s.length<=100) && s.all bOk)
def bI(l:List UInt8):ByteArray:=⟨l.toArray⟩
theorem x7(l:List UInt8):(bI l).size=l.length:=by simp[bI,ByteArray.size]
theorem lV(w:Wd)(s:ByteArray)(p:Nat):Bw w (w.iter s p):=(ji _ _).alloc (ja _) _
theorem N1(l:List UInt8)(k:Nat)(h:k<l.length):(l.take (k+1)).all bOk=((l.take k).all bOk && bOk l[k]):=by
 rw[j6 h,List.all_append];simp
theorem RR(l:List UInt8)(k:Nat)(h:k<l.length)(hb:bOk l[k]=false):l.all bOk=false:=by
 rw[Bool.eq_false_iff];intro ha;have:=List.all_eq_true.1 ha l[k] (List.getElem_mem h);rw[hb] at this;cases this
theorem nK(s:List UInt8)(w:Wd)(hs:s.length<=1000000000):Wc 215 #[.string (bI s)] w (Rt w (.bool (eD s))):=by
 have Z:=x7 s;obtain⟨S,hS⟩:=je (bI s);rw[<- hS] at Z ⊢;have HS:=jz hS;have V:=jz Z;clear hS Z;have hq:eD s=(decide (1<=s.length) && (decide (s.length<=100) && s.all bOk)):=rfl;have HQ:=jz hq;clear hq;by_cases h1:s.length<1
 ·have R:Hid (eD s=false):=jz (by rw[HQ.out,decide_eq_false (by omega)];rfl);have t1:(S.size:Int)<1:=by have:=V.out;omega
  go_enter func215,ntmps215
  go_wp2_with fail
  go_ret;exact⟨by rw[R.out];rfl,ji _ _⟩
 by_cases h2:100<s.length
 ·have R:Hid (eD s=false):=jz (by rw[HQ.out,decide_eq_true (by omega),decide_eq_false (by omega)];rfl);have t1:¬(S.size:Int)<1:=by have:=V.out;omega
  have t2:(100:Int)<S.size:=by have:=V.out;omega
  go_enter func215,ntmps215
  go_wp2_with fail
  go_ret;exact⟨by rw[R.out];rfl,ji _ _⟩
 have R:Hid (eD s=s.all bOk):=jz (by rw[HQ.out,decide_eq_true (by omega),decide_eq_true (by omega)];rfl);have t1:¬(S.size:Int)<1:=by have:=V.out;omega
 have t2:¬(100:Int)<S.size:=by have:=V.out;omega
 go_enter func215,ntmps215
 go_wp2_with fail
 go_loopw [] (λw'=>∃ pos:Nat,w'=w.iter S pos/\pos<=s.length/\Hid ((s.take pos).all bOk=true)) (λw'=>s.length-w'.iterPos w.heap.size)
 case atStart=>exact⟨0,rfl,j0 _,jz rfl⟩
 case round=>
  obtain⟨pos,rfl,hp,HA⟩:=hrel;rcases jo pos s.length with K|a4
  ·have I:pos<S.size:=by rw[V.out];exact K
   have D:S[pos]'(I)=s[pos]:=by have:=HS.out;subst this;rfl
   have a1:=jz (N1 s pos K);have U:=jz (RR s pos K);by_cases ha:s[pos].toNat<128
   ·have O:∀ ty,(Instr.next (.pointer (some ⟨w.heap.size,0,none⟩)) true ty).run prog (w.iter S pos) = .ok (.tuple #[.bool true,.int .i64 pos,.int .i32 (s[pos].toNat:Nat)]) (w.iter S (pos+1)):=λty=>by
     rw[run_next_ascii w S pos ty I (by rw[D];exact ha),D]
    have a0:bOk s[pos]=(decide (33<=s[pos].toNat) && decide (s[pos].toNat<=126)):=rfl;have J:=jz a0;obtain⟨c,hc⟩:=je (s[pos].toNat);rw[<- hc] at O ha J;clear hc a0 D;by_cases hc1:c<33
    ·have HF:Hid (s.all bOk=false):=jz (U (by rw[J.out,decide_eq_false (by omega)];rfl));have u1:(c:Int)<33:=by omega
     go_wp2_with fail
     go_ret;exact⟨by rw[R.out,HF.out];rfl,lV _ _ _⟩
    ·have u1:¬(c:Int)<33:=by omega
     by_cases hc2:126<c
     ·have HF:Hid (s.all bOk=false):=jz (U (by rw[J.out,decide_eq_true (by omega),decide_eq_false (by omega)];rfl));have u2:(126:Int)<c:=by omega
      go_wp2_with fail
      go_ret;exact⟨by rw[R.out,HF.out];rfl,lV _ _ _⟩
     ·have HT:Hid ((s.take (pos+1)).all bOk=true):=jz (by rw[a1.out,HA.out,J.out,decide_eq_true (by omega),decide_eq_true (by omega)];rfl);have u2:¬(126:Int)<c:=by omega
      go_wp2_with fail
      exact⟨⟨pos+1,rfl,K,HT⟩,by simp;omega⟩
   ·have a2:=(decode_high S pos I (by rw[D];omega)).1;have a3:=decode_le S pos;have O:∀ ty,(Instr.next (.pointer (some ⟨w.heap.size,0,none⟩)) true ty).run prog (w.iter S pos) = .ok (.tuple #[.bool true,.int .i64 pos,.int .i32 ((Utf8.decode S pos).1:Nat)]) (w.iter S (pos+(Utf8.decode S pos).2)):=λty=>run_next_any w S pos ty I
    have HF:Hid (s.all bOk=false):=jz (U (by
     unfold bOk
     rw[decide_eq_false (p:=s[pos].toNat<=126) (by omega)]
     simp))
    obtain⟨c,hc⟩:=je ((Utf8.decode S pos).1);rw[<- hc] at O a2 a3;clear hc ha D;have u1:¬(c:Int)<33:=by omega
    have u2:(126:Int)<c:=by omega
    go_wp2_with fail
    go_ret;exact⟨by rw[R.out,HF.out];rfl,lV _ _ _⟩
  ·obtain rfl:pos=s.length:=by omega
   rw[List.take_length] at HA;have O:∀ ty,(Instr.next (.pointer (some ⟨w.heap.size,0,none⟩)) true ty).run prog (w.iter S s.length) = .ok (.tuple #[.bool false]) (w.iter S s.length):=λty=>run_next_end w S s.length ty (by rw[V.out];omega)
   go_wp2_with fail
   go_ret;exact⟨by rw[R.out,HA.out];rfl,lV _ _ _⟩
def aG(l:List Nat):Wl:=l.map (λx:Nat=>(x:Int))
theorem aL(l:List Nat):(aG l).length=l.length:=List.length_map _
theorem eI(l:List Nat):n8 l=u8s (aG l):=by
 unfold n8 u8s aG;rw[List.map_map];rfl
theorem fE{l:List Nat}(h:Byn l):Bys (aG l):=λx D=>by
 unfold aG at D;obtain⟨y,hy,rfl⟩:=List.mem_map.1 D;have:=h y hy;constructor <;> omega
theorem CR:∀ {a b:List Nat},aG a=aG b->a=b
 | [],[],_=>rfl
 | [],_ :: _,h=>by simp[aG] at h
 | _ :: _,[],h=>by simp[aG] at h
 | x :: a,y :: b,h=>by
  simp only[aG,List.map_cons,List.cons.injEq] at h;rw[CR h.2,show x=y by omega]
theorem J9(v1 v2:Value)(a b:List Nat)(w:Wd)(h1:Sn w 1 v1 a.length (n8 a))(K:Sn w 1 v2 b.length (n8 b))(ha:Byn a)(hb:Byn b):
  Wc 212 #[v1,v2] w λe w'=>e = .returned (.bool (decide (a=b)))/\w'=w:=by
 have J:=jz (rN v1 v2 (aG a) (aG b) w (by rw[aL,<- eI];exact h1) (by rw[aL,<- eI];exact K) (fE ha) (fE hb));have I:Hid (decide (aG a=aG b)=decide (a=b)):=jz (decide_eq_decide.2 ⟨CR,λh=>by rw[h]⟩);rw[I.out] at J;clear h1 K ha hb I;go_enter func212,ntmps212
 go_wp2_with fail
 refine(J).mono ?_;rintro e O ⟨rfl,D⟩;rw[D];clear D O;go_wp2_with fail
 go_ret;exact⟨rfl,rfl⟩
def zC32:Wa:=(arr 32 (c8 λ_=>0)).toArray
theorem zS:∀ w,(zeroValue 23).run prog w = .ok (.agg zC32) w:=λw=>by unfold zC32;kernel_rfl
theorem KA(vk vc va:Value)(key D:List Nat)(ps:List (Value×List Nat))(w:Wd)(hs:Sn w 1 vk key.length (n8 key))(a8:Byn key)(a9:key.length<=64)(hP:PN w va ps)(hn:ps.length<=100)(ht:(bJ ps).length<=800000000)(hk:TabK w)
  (hc:Sn w 1 vc D.length (n8 D)) (a7:Byn D) (c4:16<=D.length) (c5:D.length<=32):
  Wc 166 #[vk,vc,va] w (Rt w (.bool (decide (D=(d6 key (bJ ps)).take D.length)))):=by
 obtain⟨Ac,a1,rfl,O,_,_⟩:=id hc;have HS:=jz (uI vk va key ps w hs a8 a9 hP hn ht hk);have HC:=jz hc;have b9:=jz a7;obtain⟨c,I⟩:=je D.length;rw[<- I] at c4 c5 O;have d2:¬(c:Int)<16:=by omega
 have d3:¬(32:Int)<c:=by omega
 have d4:(c:Int)<=32:=by omega
 have d1:(0:Int)<=c:=by omega
 have a0:=jz I;have d0:prog.arrayLen 23=32:=by kernel_rfl
 rw[<- I];clear hs a8 a9 hP hn ht hk hc a7 I;go_enter func166,ntmps166
 go_wp2_with fail
 refine(HS).mono ?_;rintro e U ⟨rfl,a4⟩;obtain⟨M,hM⟩:=je (n8 (d6 key (bJ ps)));have R:M.length=32:=by rw[hM,aJ];exact bL _
 rw[<- hM];have c6:(prog.info? 23).map (·.size)=some M.toArray.size:=by rw[js,R];kernel_rfl
 have c7:zC32.size=M.toArray.size:=by rw[show M.toArray.size=32 from by rw[js,R]];exact aC 32 _
 have c9:M.toArray.all (·.oneCell')=true:=by rw[hM];exact all_oneCell_toArray (bK _)
 have b7:Blk (U.alloc (.cells zC32 23)) U.heap.size 23 zC32:=Blk.new _ _ _;have Z:=jz a4;have HM:=jz hM;clear a4 hM R;go_wp2_with (first
  | (refine al 23 _ rfl rfl zS ?_)
  | (refine aN 23 (.tmp 7) (.tmp 18) rfl rfl rfl rfl b7 c6 c7 c9 ?_;intro w9 a2 a5 _ _;have b2:=jz a2;have c2:=jz a5;clear a2 a5))
 have a6:Bw U w9:=((ji _ U).alloc (ja _) _).trans c2.out;have K:Bw w w9:=Z.trans (a6.mono Z.size);have c3:Hid ((d6 key (bJ ps)).length=32):=jz (bL _);have b0:((d6 key (bJ ps)).take c).length=c:=by rw[jv,c3.out];omega
 have a3:Sn w9 1 (.slice (some ⟨U.heap.size,0,none⟩) c 32) ((d6 key (bJ ps)).take c).length (n8 ((d6 key (bJ ps)).take c)):=by
  rw[b0];refine⟨_,32,rfl,by omega,by rw[aJ,b0,Nat.mul_one],λ_=>⟨U.heap.size,0,rfl,λj u V=>?_⟩⟩;have h:=b2.range j u;rw[jt,HM.out] at h;refine h ?_;unfold n8 at V ⊢;rw[List.map_take,List.getElem?_take] at V;by_cases e:j<c
  ·rw[jP e] at V;exact V
  ·rw[jQ e] at V;cases V
 have J:Sn w9 1 (.slice Ac D.length a1) D.length (n8 D):=HC.below K;refine(J9 _ _ D ((d6 key (bJ ps)).take c) w9 (by rw[<- a0.out];rw[<- a0.out] at J;exact J) a3 b9 (λx hx=>gV _ x (j7 hx))).mono ?_;rintro e w7 ⟨rfl,b1⟩;rw[b1];clear b1 w7;have b3:=jz K;clear K a6 J a3;go_wp2_with fail
 go_ret;exact⟨rfl,b3⟩
def z8x8:Wa:=(arr 8 (c8 λ_=>0)).toArray
theorem zT:∀ w,(zeroValue 100).run prog w = .ok (.agg z8x8) w:=λw=>by unfold z8x8;kernel_rfl
def jE(s:List Nat):Nat->Nat:=if 24<=s.length then nth s else λ_=>0
theorem x8(v:Value)(s:List Nat)(w:Wd)(hs:Sn w 1 v s.length (n8 s)):Wc 164 #[v] w (Rt w (.tuple #[.agg (arr 8 (c8 (jE s))).toArray,.bool (decide (24<=s.length))])):=by
 have b7:=jz hs;obtain⟨A,cap,rfl,b1,_,_⟩:=hs;obtain⟨n,hn⟩:=je s.length;have HN:=jz hn;rw[<- hn] at b1 ⊢;clear hn;have c3:prog.arrayLen 100=8:=by kernel_rfl
 go_enter func164,ntmps164
 go_upto_region 2 with (refine al 100 _ rfl rfl zT ?_)
 obtain⟨g,hg⟩:=je w.heap.size;obtain⟨w1,a8⟩:=je ((w.alloc (.cells z8x8 100)).alloc (.cells z8x8 100));have U:Hid (Bw w w1/\w.heap.size<=g/\AB w1 g 100 8 (c8 λ_=>0)/\AB w1 (g+1) 100 8 (c8 λ_=>0)):=jz (by
  rw[a8,hg]
  exact⟨((ji _ w).alloc (ja _) _).alloc (by simp) _,ja _,(Blk.new _ _ _).alloc _,Blk.newAt _ _ _ _ (by simp)⟩)
 rw[<- a8];simp only[World.size_alloc,<- hg];clear a8 hg;rcases jo n 24 with b9|a3
 ·have hi:(n:Int)<24:=by omega
  have D:=U.out.2.2.2.range;have Z:Blk w1 g 100 z8x8:=U.out.2.2.1;have R:=NO (L:=arr 8 (c8 λ_=>0)) (aA _ _);have HF:Hid (jE s=(λ_=>0)):=jz (by unfold jE;rw[jQ (by rw[<- HN.out];omega)]);have HD:Hid (decide (24<=n)=false):=jz (decide_eq_false (by omega));obtain⟨M,J⟩:=je (arr 8 (c8 λ_=>0));rw[<- J] at D R;have a5:(prog.info? 100).map (·.size)=some M.toArray.size:=by rw[js];exact R
  have a6:z8x8.size=M.toArray.size:=by rw[J,aC];exact aC 8 _
  have a7:M.toArray.all (·.oneCell')=true:=by rw[J];exact aP (λ_=>rfl)
  have a1:=jz J;clear J b9;go_wp2_with (first
   | (refine ld 100 (.tmp 4) rfl rfl rfl D underlying100 rfl R ?_)
   | (refine aN 100 (.tmp 2) (.tmp 8) rfl rfl rfl rfl Z a5 a6 a7 ?_;intro w9 I K _ _;have V:=jz I;have a0:=jz K;clear I K))
  have a4:w9.rangeAt g 0 M:=by have:=V.range;rwa [jt] at this
  exact bodyPost_ret (aD rfl _ rfl a4 underlying100 rfl R) rfl ⟨by rw[HF.out,HD.out,<- a1.out];rfl,U.out.1.trans (a0.mono U.out.2.1)⟩
 ·have hi:¬(n:Int)<24:=by omega
  have HD:Hid (decide (24<=n)=true):=jz (decide_eq_true a3);have HF:Hid (jE s=nth s):=jz (by unfold jE;rw[jP (by rw[<- HN.out];exact a3)]);obtain⟨A',c2,hv,_,_,hx⟩:=b7.below U.out.1;injection hv with hA _ _
  subst hA;obtain⟨b,off,rfl,hr⟩:=hx (by rw[<- HN.out];omega);obtain⟨T,hT⟩:=je (s.take 8);have a2:T.length=8:=by rw[hT,jv,<- HN.out];omega
  have D:w1.rangeAt b off (n8 T):=λj u hj=>by
   refine hr j u ?_;rw[hT] at hj;unfold n8 at hj ⊢;rw[List.map_take,List.getElem?_take] at hj;by_cases e:j<8
   ·rw[jP e] at hj;exact hj
   ·rw[jQ e] at hj;cases hj
  have b2:(n8 T).length=Nat.min n 8:=by rw[aJ,a2];exact(Nat.min_eq_right (by omega)).symm
  have b3:w1.there (g+1) 0 (n8 T).length:=by rw[aJ,a2];exact U.out.2.2.2.there (by omega)
  obtain⟨w3,a9⟩:=je (w1.setCells (g+1) 0 (n8 T));have O:Hid (Bw w w3/\w.heap.size<=g/\AB w3 g 100 8 (c8 λ_=>0)/\AB w3 (g+1) 100 8 (c8 (nth s))):=jz (by
   have h:=U.out
   rw[a9]
   refine⟨Below.setS (by have:=h.2.1;omega) _ _ h.1,h.2.1,h.2.2.1.farS (by omega) _ _,(h.2.2.2.setL T).ext (λq hq=>?_)⟩
   show Value.int .u8 ((if 0<=q/\q<0+T.length then nth T (q-0) else 0:Nat):Int)=Value.int .u8 ((nth s q:Nat):Int)
   rw[jP (by omega),Nat.sub_zero,hT]
   unfold nth
   rw[jn,jn,List.getElem?_take,jP hq])
  have b0:=jz a9;clear hx hr a9 hT a2 a3 U;go_upto_region 5 with (refine cpm (.tmp 9) (.tmp 10) rfl (by rfl) (cs:=n8 T) (b:=g+1) (off:=0) (dn:=8) (dc:=8) (by rfl) (by rfl) underlying60 (by kernel_rfl) b2 D b3 (bK T) ?_)
  rw[<- b0.out];clear b0 D b2 b3;have D:=O.out.2.2.2.range;have Z:Blk w3 g 100 z8x8:=O.out.2.2.1;have R:=NO (L:=arr 8 (c8 (nth s))) (aA _ _);obtain⟨M,J⟩:=je (arr 8 (c8 (nth s)));rw[<- J] at D R;have a5:(prog.info? 100).map (·.size)=some M.toArray.size:=by rw[js];exact R
  have a6:z8x8.size=M.toArray.size:=by rw[J,aC];exact aC 8 _
  have a7:M.toArray.all (·.oneCell')=true:=by rw[J];exact aP (λ_=>rfl)
  have a1:=jz J;clear J
  try simp only[jq]
  go_wp2_with (first
   | (refine ld 100 (.tmp 4) rfl rfl rfl D underlying100 rfl R ?_)
   | (refine aN 100 (.tmp 2) (.tmp 12) rfl rfl rfl rfl Z a5 a6 a7 ?_;intro w9 I K _ _;have V:=jz I;have a0:=jz K;clear I K))
  have a4:w9.rangeAt g 0 M:=by have:=V.range;rwa [jt] at this
  exact bodyPost_ret (aD rfl _ rfl a4 underlying100 rfl R) rfl ⟨by rw[HF.out,HD.out,<- a1.out];rfl,O.out.1.trans (a0.mono O.out.2.1)⟩
end
end Go.Proofs.YtjjlaipkkdncfaaGreatDoor
