import Derived.Test.YtjjlaipkkdncfaaGreatDoorMV32
import Derived.Test.YtjjlaipkkdncfaaGreatDoorMV29
set_option linter.unusedVariables false
set_option linter.unusedSimpArgs false
set_option maxRecDepth 100000
set_option maxHeartbeats 40000000
namespace Go.Proofs.YtjjlaipkkdncfaaGreatDoor
open Go.Proofs.Tryz
section
open Go.RowKit
attribute [local irreducible] wpQuiet wpAnyH
section
variable {P : Program} {ops : Array Oper} {Q : Exit -> Act -> Wd -> Prop} {S : Wd -> Prop} {a : Act} {w : Wd} {listed : Array Bool} {fuel : Nat}
theorem kAp(i:Nat)(dst:Option Tmp){t e s bytes:Nat}(T:SlT P t e s bytes)(p q:Operand){base n m:Nat}{v x:Value}{xs D:Wv}(R:w.ownsRow base e s v n xs)(hx:Sn w s x m D)
  (h1:∀ u∈D,u.oneCell'=true) (U:n+m<=maxLen) (I:(n+m)*bytes<=140737488355328) (J:base<=w.heap.size)
  (h:∀ v' w',w'.ownsRow base e s v' (n+m) (xs++D)->w.grownBy w' v.ownBlock->S w'/\(S w'->wpAnyH P .any ops Q S fuel (listed.setIfInBounds i true) (a.put dst v') w'))
  {o:Oper} (ho:ops[i]? = some o:=by rfl) (O:o.dst=dst:=by rfl) (V:o.op = .call { callee:=.builtin .append,args:=#[p,q],argTypes:=#[t,t] }:=by rfl) (hv:a.eval p=v:=by rfl) (Z:a.eval q=x:=by rfl) (hc:kOne ops listed a i=true:=by kernel_rfl):wpAnyH P .any ops Q S (fuel+1) listed a w:=by
 subst O;have k:=kOne.out ho hc;refine wpAnyH_ready k.1 (by simp) (AllReadyH.cons ho (λK hK=>?_) jN);rw[jP k.2];obtain⟨v',w',hrun,h2,h3,_⟩:=gL (ty:=o.type) T R hx h1 U I J;unfold Oper.wp execOp;simp only[V,resolve,invoke,builtin,Sem.run_bind,Sem.run_pure,Result.andThen_ok,List.map_toArray,List.map_cons,List.map_nil,hv,Z,hrun];obtain⟨hS,hk⟩:=h v' w' h2 h3;exact hK _ _ hS hk
theorem WX{rest:List Oper}{o:Oper}(arr:TypeId)(x:Operand)(J:o.op = .sliceToArrayPointer arr x)(U:Region.wanted o (yielded ops a.tmps)=true)
  {A:Option Addr} {n cap m:Nat} {e:TypeId} (R:a.eval x = .slice A n cap) (O:P.underlying arr=some (.array m e)) (I:m<=n)
  (h:wpList P ops Q rest (a.put o.dst (.pointer A)) w):wpList P ops Q (o :: rest) a w:=
 wpList_step λK D=>by
  rw[jP U];unfold Oper.wp;have hrun:(execOp a.eval o).run P w = .ok (.value (.pointer A)) w:=by
   unfold execOp;simp only[J,R,Instr.arrayAt];simp only[Sem.run_bind,Sem.run_pure,Result.andThen_ok,run_underlying O,jQ (Nat.not_lt.2 I)]
  rw[hrun,Oper.upon_value];exact D _ _ h
end
def sEn:ByteArray:=⟨#[101,110,99,114,121,112,116]⟩
def sPr:ByteArray:=⟨#[112,114,111,116,101,99,116]⟩
def eR(key:Nat->Nat):List Nat:=(d6 (arr 16 key) (1 :: bn sEn)).take 16
def mR(key:Nat->Nat):List Nat:=(d6 (arr 16 key) (1 :: bn sPr)).take 32
def frR(key nn:Nat->Nat)(b:List Nat):List Nat:=arr 8 nn++arr b.length (d8 (nth (eR key)) nn (nth b) b.length)
def seR(key:Nat->Nat)(usage:Nat)(nn:Nat->Nat)(b:List Nat):List Nat:=frR key nn b++(d6 (mR key) (usage :: frR key nn b)).take 16
theorem pP(k l:List Nat):(d6 k l).length=32:=bL _
theorem rD(k l:List Nat):Byn (d6 k l):=gV _
theorem UZ(key:Nat->Nat):(eR key).length=16:=by unfold eR;rw[jv,pP];rfl
theorem U0(key:Nat->Nat):(mR key).length=32:=by unfold mR;rw[jv,pP];rfl
theorem O6(key:Nat->Nat):Byn (eR key):=λx D=>rD _ _ x (j7 D)
theorem U1(key:Nat->Nat):Byn (mR key):=λx D=>rD _ _ x (j7 D)
theorem R9{l:List Nat}{n:Nat}(h:l.length=n):n8 l=arr n (c8 (nth l)):=by
 refine List.ext_getElem? λk=>?_
 rcases jo k n with D|D
 ·rw[dC _ D,oE l k (by omega)];rfl
 ·rw[List.getElem?_eq_none (by rw[aJ];omega),List.getElem?_eq_none (by rw[aA];exact D)]
theorem DP{key nn f:Nat->Nat}(I:aQ key)(J:aQ nn)(D:aQ f)(n:Nat):aQ (d8 key nn f n):=λj=>by
 unfold d8;split
 ·exact Nat.xor_lt_two_pow (n:=8) (D j) (pG I (lU J _ 8) _)
 ·exact D j
theorem yN(key nn:Nat->Nat)(us:Nat)(bs:List Nat)(vb:Value)(w:Wd)(d2:aQ key)(h7:aQ nn)(m1:us<256)(g8:Byn bs)(hs:Sn w 1 vb bs.length (n8 bs))(h0:0<bs.length)(hl:bs.length<=1048576):Wc 55 #[.agg (arr 16 (c8 key)).toArray,.int .u8 us,.agg (arr 8 (c8 nn)).toArray,vb] w λe w'=>∃ v,e = .returned v/\w'.ownsRow w.heap.size 5 1 v (seR key us nn bs).length (n8 (seR key us nn bs))/\Bw w w':=by
 obtain⟨Ab,a6,rfl,m9,_,_⟩:=id hs;have HK:=jz (And.intro d2 (And.intro h7 g8));have HS:=jz hs;have HL:=jz (And.intro h0 hl);clear d2 h7 hs g8 h0 hl;go_enter func55,ntmps55
 go_upto_region 1 with fail
 obtain⟨g,hg⟩:=je w.heap.size;obtain⟨w1,e1⟩:=je ((w.alloc (.cells (arr 16 (c8 key)).toArray 41)).alloc (.cells (arr 8 (c8 nn)).toArray 100));have H1:Hid (Bw w w1/\AB w1 g 41 16 (c8 key)/\AB w1 (g+1) 100 8 (c8 nn)):=jz (by
  rw[e1,hg]
  exact⟨((ji _ w).alloc (ja _) _).alloc (by simp) _,(Blk.new w _ _).alloc _,Blk.newAt _ _ _ _ (by simp)⟩)
 have m8:=jz hg;rw[<- e1];simp only[World.size_alloc,<- hg];clear e1 hg;have f2:Hid (∀ W,AB W g 41 16 (c8 key)->Sn W 1 (.slice (some ⟨g,0,none⟩) 16 16) (arr 16 key).length (n8 (arr 16 key))):=jz (λW h=>xQ 16 (aA _ _) (by rw[lO];exact h.range));obtain⟨E,hE⟩:=je (eR key);obtain⟨M,hM⟩:=je (mR key);have Z:Hid (E.length=16/\Byn E/\M.length=32/\Byn M):=jz ⟨by rw[hE];exact UZ key,by rw[hE];exact O6 key,by rw[hM];exact U0 key,by rw[hM];exact U1 key⟩;have f0:Hid (∀ W,AB W g 41 16 (c8 key)->Wc 87 #[.slice (some ⟨g,0,none⟩) 16 16,.string sEn,.int .i64 ((16:Nat):Int)] W λe w'=>∃ v,e = .returned v/\w'.ownsRow W.heap.size 5 1 v 16 (n8 E)/\Bw W w'):=jz (λW h=>by
  rw[hE]
  exact rY _ (arr 16 key) sEn 16 W (f2 W h) (eH HK.out.1) (by rw[aA];omega) (by decide) (by omega) (by omega))
 have f1:Hid (∀ W,AB W g 41 16 (c8 key)->Wc 87 #[.slice (some ⟨g,0,none⟩) 16 16,.string sPr,.int .i64 ((32:Nat):Int)] W λe w'=>∃ v,e = .returned v/\w'.ownsRow W.heap.size 5 1 v 32 (n8 M)/\Bw W w'):=jz (λW h=>by
  rw[hM]
  exact rY _ (arr 16 key) sPr 32 W (f2 W h) (eH HK.out.1) (by rw[aA];omega) (by decide) (by omega) (by omega))
 have d7:=jz (And.intro hE hM);clear hE hM;obtain⟨U,a0⟩:=je (arr 16 (c8 (nth E)));have a5:Hid (n8 E=U/\U=arr 16 (c8 (nth E))):=jz ⟨by rw[a0];exact R9 Z.out.1,a0⟩;have h5:=bP (L:=U) (by rw[a0];exact aA _ _);have h9:(prog.info? 41).map (·.size)=some U.toArray.size:=by rw[js];exact h5
 have k0:z8x16.size=U.toArray.size:=by rw[show U.toArray.size=16 from by rw[a0];exact aC _ _];exact aC 16 _
 have k1:U.toArray.all (·.oneCell')=true:=by rw[a0];exact aP (λ_=>rfl)
 clear a0;go_upto_region 2 with (first
  | (go_at_call 87;refine(f0 w1 H1.out.2.1).mono ?_;rintro e w2 ⟨ve,rfl,hown,a9⟩;obtain⟨be,ce,Fe,rfl,_,_,_,_,_,_⟩:=DO hown (by decide);have h8:w2.rangeAt be 0 U:=(by obtain⟨A3,c3,e3,_,_,m2⟩:=Sn.own hown;obtain⟨b4,o4,e4,k6⟩:=m2 (by decide);injection e3 with e3 _ _;rw[e4] at e3;injection e3 with e3;injection e3 with e5 e6 _;subst e5 e6;rw[<- a5.out.1];exact k6);have e7:=jz a9;clear a9 hown)
  | (refine WX (m:=16) 41 (.tmp 14) rfl (by rfl) (by rfl) underlying41 (ja _) ?_)
  | (refine ld 41 (.tmp 15) rfl (by rfl) (by rfl) h8 underlying41 rfl h5 ?_)
  | (refine al 41 _ rfl rfl cK ?_)
  | (refine bQ (cells:=U.toArray) 41 (.tmp 9) (.tmp 16) rfl rfl (by rfl) (by rfl) h9 k0 k1 ?_;intro w3 b7 g2 m4;clear m4))
 obtain⟨g9,h4⟩:=je w2.heap.size;rw[<- h4] at b7 ⊢;have H3:Hid (Bw w w3/\AB w3 g 41 16 (c8 key)/\AB w3 (g+1) 100 8 (c8 nn)/\AB w3 g9 41 16 (c8 (nth E))):=jz (by
  have hb:Bw w1 w3:=aB e7 g2
  rw[a5.out.2] at b7
  exact⟨aB H1.out.1 hb,H1.out.2.1.keep hb,H1.out.2.2.keep hb,b7⟩)
 clear h4 b7 g2 e7 H1 h8 h9 k0 k1 f0;go_upto_region 3 with (go_at_call 87;refine(f1 w3 H3.out.2.1).mono ?_;rintro e w4 ⟨vm,rfl,b2,g3⟩;obtain⟨Am,cm,rfl,d5,_⟩:=aM b2;have a4:Hid (Bw w3 w4/\Sn w4 1 (.slice Am 32 cm) 32 (n8 M)):=jz ⟨g3,d5⟩;clear b2 d5 g3)
 obtain⟨I,c4⟩:=je w4.drew;have H5:Hid (Bw w I/\AB I (g+1) 100 8 (c8 nn)/\AB I g9 41 16 (c8 (nth E))/\Sn I 1 (.slice Am 32 cm) 32 (n8 M)/\Sn I 1 (.slice Ab bs.length a6) bs.length (n8 bs)):=jz (by
  have hb:Bw w w4:=aB H3.out.1 a4.out.1
  rw[c4]
  exact⟨hb.drew,H3.out.2.2.1.keep a4.out.1.drew,H3.out.2.2.2.keep a4.out.1.drew,a4.out.2.keep (λ_ _ h=>h),(HS.below hb).keep (λ_ _ h=>h)⟩)
 clear a4 H3 f1;obtain⟨N8,a8⟩:=je (arr 8 (c8 nn));have f4:Hid (N8.length=8/\N8=arr 8 (c8 nn)/\U.length=16):=jz ⟨by rw[a8];exact aA _ _,a8,by rw[a5.out.2];exact aA _ _⟩;have e8:Hid (∀ W,Bw I W->Wc 88 #[.agg U.toArray,.agg N8.toArray,.slice Ab bs.length a6] W λe w'=>∃ v,e = .returned v/\w'.ownsRow W.heap.size 5 1 v bs.length (n8 (arr bs.length (d8 (nth E) nn (nth bs) bs.length)))/\Bw W w'):=jz (λW hW=>by
  rw[a8,a5.out.2]
  exact FQ (nth E) nn bs _ W (λj=>dI Z.out.2.1 j) HK.out.2.1 HK.out.2.2 (H5.out.2.2.2.2.below hW) HL.out.1 HL.out.2)
 have f6:Hid (∀ W,Bw I W->W.rangeAt g9 0 U):=jz (λW hW=>by rw[a5.out.2];exact(H5.out.2.2.1.keep hW).range);have f5:Hid (∀ W,Bw I W->W.rangeAt (g+1) 0 N8):=jz (λW hW=>by rw[a8];exact(H5.out.2.1.keep hW).range);have K:Hid ((I.alloc (.cells #[] 5)).ownsRow I.heap.size 5 1 (.slice (some ⟨I.heap.size,0,none⟩) 0 0) 0 []):=jz (nC I #[] _ 1 0 _ _ (ja _) rfl (by decide) rfl);have d3:Hid (Sn (I.alloc (.cells #[] 5)) 1 (.slice (some ⟨g+1,0,none⟩) 8 8) 8 (n8 (arr 8 nn))):=jz (by
  have h:=xQ 8 (aA 8 nn) (w:=I.alloc (.cells #[] 5)) (gi:=g+1) (by rw[lO];exact(H5.out.2.1.alloc _).range)
  rw[aA] at h
  exact h)
 have b0:Hid (Bw I (I.alloc (.cells #[] 5))):=jz ((ji _ I).alloc (ja _) _);clear a8;refine kZ (n:=9) (λW=>Bw I W) (by rw[<- c4];exact ji _ _) (h:=λhH=>?_);simp only[p0];dsimp only [List.replicate];rw[<- c4] at hH ⊢;clear c4;refine qT 1 (.slice (some ⟨g+1,0,none⟩) 8 8) ?_;refine qL 3 (cs:=U) (f6) f4.out.2.2 ?_;refine qL 4 (cs:=N8) (f5) f4.out.1 ?_;refine qM 5 (.slice Ab bs.length a6) ?_;refine kS 0 (some 19) (.slice (some ⟨I.heap.size,0,none⟩) 0 0) (I.alloc (.cells #[] 5)) (hS:=b0.out) (h:=?_);simp only[pe,p5,p2];dsimp only [List.set];refine kAp 2 (some 21) fQ (.tmp 19) (.tmp 20) (base:=I.heap.size) K d3 (bK _) (by decide) (by decide) (by have:=b0.out.size;exact this) (h:=?_);intro v6 w6 J h2;have H6:Hid (w6.ownsRow I.heap.size 5 1 v6 8 (n8 (arr 8 nn))/\Bw I w6):=jz ⟨by rw[List.nil_append,Nat.zero_add] at J;exact J,b0.out.grown h2 b0.out.size (λq e=>(K.out.lt q e).1)⟩;obtain⟨A6,c6,rfl,_,_⟩:=aM J;clear J h2;refine⟨H6.out.2,λhH=>?_⟩;simp only[pe,p5,p2];dsimp only [List.set];refine kF 6 (some 25) ((e8 w6 H6.out.2).mono ?_);rintro e w7 ⟨v7,rfl,b1,c2⟩;have H7:Hid (w7.ownsRow I.heap.size 5 1 (.slice A6 8 c6) 8 (n8 (arr 8 nn))/\Bw I w7/\I.heap.size<=w7.heap.size):=jz ⟨aE H6.out.1 c2,aB H6.out.2 c2,(aB H6.out.2 c2).size⟩;obtain⟨A7,c7,rfl,d4,_⟩:=aM b1;have f8:=jz d4;clear d4 b1 c2;refine⟨_,rfl,H7.out.2.1,λhH=>?_⟩;simp only[pe,p5,p2];dsimp only [List.set];refine kAp 7 (some 26) fQ (.tmp 21) (.tmp 25) (base:=I.heap.size) H7.out.1 f8 (bK _) (by have:=HL.out.2;unfold maxLen;omega) (by have:=HL.out.2;omega) H7.out.2.2 (h:=?_);intro v8 w8 O h3;have H8:Hid (w8.ownsRow I.heap.size 5 1 v8 (frR key nn bs).length (n8 (frR key nn bs))/\Bw I w8):=jz ⟨by rw[show(frR key nn bs).length=8+bs.length from by unfold frR;rw[jj,aA,aA]];unfold frR;rw[dD,<- d7.out.1];exact O,H7.out.2.1.grown h3 H7.out.2.2 (λq e=>(H7.out.1.lt q e).1)⟩;obtain⟨A8,b3,rfl,_,_⟩:=aM O;clear O h3;refine⟨H8.out.2,λhH=>?_⟩;simp only[pe,p5,p2];dsimp only [List.set];refine qT 8 (.slice A8 (8+bs.length) b3) ?_;refine kE (h:=?_);obtain⟨FR,a7⟩:=je (frR key nn bs);obtain⟨n,hn⟩:∃ n,n=8+bs.length:=⟨_,rfl⟩;have a2:FR.length=n:=by rw[a7,hn];unfold frR;rw[jj,aA,aA]
 have g1:Byn FR:=by
  rw[a7];unfold frR;intro x hx;rcases List.mem_append.1 hx with hx|hx
  ·exact eH HK.out.2.1 x hx
  ·rw[<- d7.out.1] at hx;exact eH (DP (λj=>dI Z.out.2.1 j) HK.out.2.1 (λj=>dI HK.out.2.2 j) _) x hx
 rw[<- hn];have n0:n<=2000000:=by have:=HL.out.2;omega
 have H9:Hid (w8.ownsRow I.heap.size 5 1 (.slice A8 n b3) n (n8 FR)/\Bw I w8):=jz (by
  have h:=H8.out
  rw[<- a7,a2] at h
  rw[<- hn] at h
  exact h)
 have f9:Hid (I.heap.size<=w8.heap.size):=jz H9.out.2.size;have hlit:Hid ((w8.alloc (.cells #[.int .u8 us] 5)).ownsRow w8.heap.size 5 1 (.slice (some ⟨w8.heap.size,0,none⟩) 1 1) 1 [.int .u8 us]):=jz (iP w8 #[.int .u8 us] _ 1 1 _ _ (ja _) rfl (by decide) rfl);have hsf:Hid (Sn (w8.alloc (.cells #[.int .u8 us] 5)) 1 (.slice A8 n b3) n (n8 FR)):=jz ((Sn.own H9.out.1).alloc _);obtain⟨D,hD⟩:=je (d6 M (us :: FR));have b9:D.length=32:=by rw[hD];exact pP _ _
 have f3:Hid (∀ W v,Bw I W->Sn W 1 v (us :: FR).length (n8 (us :: FR))->Wc 89 #[.slice Am 32 cm,v] W (Rt W (.agg (n8 D).toArray))):=jz (λW v hW h=>by
  rw[hD]
  exact DC _ v M (us :: FR) W (by rw[Z.out.2.2.1];exact H5.out.2.2.2.1.below hW) h (by rw[Z.out.2.2.1];omega) Z.out.2.2.2 (λx hx=>by
   rcases List.mem_cons.1 hx with rfl|hx
   ·exact m1
   ·exact g1 x hx) (by rw[List.length_cons,a2];omega))
 have f7:Hid (seR key us nn bs=FR++D.take 16/\(seR key us nn bs).length=n+16):=jz (by
  have e:seR key us nn bs=FR++D.take 16:=by
   unfold seR
   rw[<- a7,<- d7.out.2,<- hD]
  exact⟨e,by rw[e,jj,a2,jv,b9];rfl⟩)
 have e0:(us :: FR).length=1+n:=by rw[List.length_cons,a2];omega
 obtain⟨O1,a1⟩:=je ((n8 D).toArray);have h6:(prog.info? 23).map (·.size)=some O1.size:=by rw[a1,js,aJ,b9];kernel_rfl
 have m3:z8x32.size=O1.size:=by rw[show O1.size=32 from by rw[a1,js,aJ,b9]];exact aC 32 _
 have k7:O1.all (·.oneCell')=true:=by rw[a1];exact all_oneCell_toArray (bK D)
 rw[<- a1] at f3;have k5:=jz a1;have k4:=jz (And.intro h6 a2);clear a7 hn a2 g1 hD a1 h6 H8 e8 f6 f5 K d3 b0;go_upto_region 5 with (first
  | (at_builtin;refine app fQ (.tmp 29) (.tmp 30) rfl (by rfl) (base:=w8.heap.size) (by rfl) hlit (by rfl) hsf (bK _) (by unfold maxLen;omega) (by omega) (by simp) ?_;intro v10 w10 hown hg hat;have H10:Hid (Bw w8 w10/\w10.ownsRow w8.heap.size 5 1 v10 (us :: FR).length (n8 (us :: FR))):=jz ⟨((ji _ w8).alloc (ja _) _).grown hg (by simp) (λg e=>by cases e;exact ja _),by rw[e0];exact hown⟩;clear hown hg hat)
  | (go_at_call 89;refine(f3 w10 _ (H9.out.2.trans (H10.out.1.mono f9)) (Sn.own H10.out.2)).mono ?_;rintro e m6 ⟨rfl,c9⟩;have c5:=jz (aB H10.out.1 c9);clear c9)
  | (refine al 23 _ rfl rfl eB ?_)
  | (refine bQ (cells:=O1) 23 (.tmp 12) (.tmp 32) rfl rfl (by rfl) (by rfl) k4.out.1 m3 k7 ?_;intro a3 R d0 k2;clear k2))
 obtain⟨g0,d1⟩:=je m6.heap.size;rw[<- d1] at R ⊢;have V:Hid (Bw I a3/\a3.ownsRow I.heap.size 5 1 (.slice A8 n b3) n (n8 FR)/\Sn a3 1 (.slice (some ⟨g0,0,none⟩) 16 32) 16 (n8 (D.take 16))/\I.heap.size<=a3.heap.size):=jz (by
  have hb:Bw w8 a3:=aB c5 d0
  have a9:Bw I a3:=H9.out.2.trans (hb.mono f9)
  refine⟨a9,aE H9.out.1 hb,?_,a9.size⟩
  rw[k5.out] at R
  have hr:=Blk.range R
  rw[jt] at hr
  refine⟨_,32,rfl,by decide,by rw[aJ,jv,b9];rfl,λ_=>⟨g0,0,rfl,λj u hj=>hr j u ?_⟩⟩
  rw[<- s6,List.getElem?_take] at hj
  split at hj
  ·exact hj
  ·cases hj)
 clear d1 R d0 c5;go_wp2_with (at_builtin;refine app fQ (.tmp 33) (.tmp 34) rfl (by rfl) (base:=I.heap.size) (by rfl) V.out.2.1 (by rfl) V.out.2.2.1 (bK _) (by unfold maxLen;omega) (by omega) V.out.2.2.2 ?_;intro m5 k3 hown hg hat;have e2:Hid (k3.ownsRow I.heap.size 5 1 m5 (seR key us nn bs).length (n8 (seR key us nn bs))/\Bw I k3):=jz ⟨by rw[f7.out.2,f7.out.1,dD];exact hown,V.out.1.grown hg V.out.2.2.2 (λq e=>(V.out.2.1.lt q e).1)⟩;clear hown hg hat)
 go_ret;exact⟨_,rfl,aT e2.out.1 H5.out.1.size,aB H5.out.1 e2.out.2⟩
end
section
open Go.RowKit
attribute [local irreducible] wpQuiet wpAnyH
theorem WY{ops:Array Oper}{Q:Exit->Act->Wd->Prop}{S:Wd->Prop}{a:Act}{w:Wd}{listed:Array Bool}{fuel:Nat}(i:Nat)(dst:Option Tmp)(p q:Operand){base n:Nat}{v:Value}{Z:Wv}{s:ByteArray}(J:w.ownsRow base 5 1 v n Z)
  (a0:n+s.size<=1000000000) (D:base<=w.heap.size)
  (h:∀ v' w',w'.ownsRow base 5 1 v' (n+s.size) (Z++n8 (bn s))->w.grownBy w' v.ownBlock->S w'/\(S w'->wpAnyH prog .any ops Q S fuel (listed.setIfInBounds i true) (a.put dst v') w'))
  {o:Oper} (ho:ops[i]? = some o:=by rfl) (I:o.dst=dst:=by rfl) (R:o.op = .call { callee:=.builtin .append,args:=#[p,q],argTypes:=#[60,9] }:=by rfl) (hv:a.eval p=v:=by rfl) (V:a.eval q = .string s:=by rfl) (hc:kOne ops listed a i=true:=by kernel_rfl):wpAnyH prog .any ops Q S (fuel+1) listed a w:=by
 subst I;have k:=kOne.out ho hc;refine wpAnyH_ready k.1 (by simp) (AllReadyH.cons ho (λK hK=>?_) jN);rw[jP k.2];obtain⟨ti,hi,hz,U,O⟩:=info_parts (P:=prog) (e:=5) (z:=.int .u8 0) (size:=1) (bytes:=1) (by kernel_rfl);obtain⟨v',w',hrun,h2,h3,_⟩:=Lib.run_append_own_string (P:=prog) w base 60 9 o.type 5 ti underlying60 underlying9 hi hz U O v n Z J s (by unfold maxLen;omega) (by omega) D;rw[TP] at h2;unfold Oper.wp execOp;simp only[R,resolve,invoke,builtin,Sem.run_bind,Sem.run_pure,Result.andThen_ok,List.map_toArray,List.map_cons,List.map_nil,hv,V,hrun];obtain⟨hS,hk⟩:=h v' w' h2 h3;exact hK _ _ hS hk
def wdR(s:ByteArray):List Nat:=s.size :: bn s
def jG(S:ByteArray)(n:Nat)(ps:List ByteArray):List Nat:=wdR S++n :: ps.flatMap wdR
def l6(S:ByteArray)(ps:List ByteArray):List Nat:=jG S ps.length ps
theorem KW(S:ByteArray)(n:Nat)(ps:List ByteArray)(k:Nat)(h:k<ps.length):jG S n (ps.take (k+1))=jG S n (ps.take k)++[ps[k].size]++bn ps[k]:=by
 unfold jG;rw[j6 h,List.flatMap_append];simp[wdR]
theorem DQ(S:ByteArray)(n:Nat):∀ ps:List ByteArray,(∀ s∈ps,s.size<=255)->(jG S n ps).length<=S.size+2+256*ps.length:=λps h=>by
 have D:∀ ps:List ByteArray,(∀ s∈ps,s.size<=255)->(ps.flatMap wdR).length<=256*ps.length:=by
  intro ps;induction ps with
  | nil=>intro _;exact ja _
  | cons s r ih=>
   intro h;have h1:=h s (List.mem_cons_self ..);have J:=ih (λx I=>h x (List.mem_cons_of_mem _ I));rw[List.flatMap_cons,jj,List.length_cons];have:(wdR s).length=s.size+1:=by unfold wdR;rw[List.length_cons,eF]
   omega
 have:=D ps h;unfold jG;rw[jj,List.length_cons];have e:(wdR S).length=S.size+1:=by unfold wdR;rw[List.length_cons,eF]
 omega
theorem pQ(S:ByteArray)(ps:List ByteArray)(A:Option Addr)(cap:Nat)(w:Wd)(h:Sn w 1 (.slice A ps.length cap) ps.length (ps.map Value.string))(hS:S.size<=255)(hn:ps.length<=255)(hp:∀ s∈ps,s.size<=255):Wc 91 #[.agg #[.string S,.slice A ps.length cap]] w λe w'=>∃ v,e = .returned v/\w'.ownsRow w.heap.size 5 1 v (l6 S ps).length (n8 (l6 S ps))/\Bw w w':=by
 obtain⟨_,_,e0,e5,_,hx⟩:=id h;injection e0 with e1 _ e2
 subst e1 e2;have f3:(ps.length:Int)<=cap:=by omega
 have HA:Hid (Sn w 1 (.slice A ps.length cap) ps.length (ps.map Value.string)/\∀ s∈ps,s.size<=255):=jz ⟨h,hp⟩;have f1:(S.size:Int) % 256=(S.size:Int):=by omega
 have f8:(ps.length:Int) % 256=(ps.length:Int):=by omega
 have f2:IntKind.u8.wrap (S.size:Int)=(S.size:Int):=by rw[IntKind.wrap_u8'];omega
 have f9:IntKind.u8.wrap (ps.length:Int)=(ps.length:Int):=by rw[IntKind.wrap_u8'];omega
 clear h hp hx;go_enter func91,ntmps91
 go_upto_region 1 with fail
 obtain⟨g,hg⟩:=je w.heap.size;obtain⟨D,a6⟩:=je (w.alloc (.cells #[.string S,.slice A ps.length cap] 51));have R:Hid (Blk D g 51 #[.string S,.slice A ps.length cap]/\Bw w D):=jz (by rw[a6,hg];exact⟨Blk.new _ _ _,(ji _ w).alloc (ja _) _⟩);rw[<- a6];simp only[<- hg];clear a6 hg;have d3:D.cell? ⟨g,0,none⟩=some (.string S):=R.out.1.cell 0;have d4:D.cell? ⟨g,1,none⟩=some (.slice A ps.length cap):=R.out.1.cell 1;have b0:(D.alloc (.cells #[.int .u8 (S.size:Nat)] 5)).cell? ⟨g,0,none⟩=some (.string S):=(R.out.1.alloc _).cell 0;have a3:Hid ((D.alloc (.cells #[.int .u8 (S.size:Nat)] 5)).ownsRow D.heap.size 5 1 (.slice (some ⟨D.heap.size,0,none⟩) 1 1) 1 [.int .u8 (S.size:Nat)]):=jz (iP D #[.int .u8 (S.size:Nat)] _ 1 1 _ _ (ja _) rfl (by decide) rfl);go_upto_region 2 with (at_builtin;refine OV (.tmp 9) (.tmp 11) rfl (by rfl) (base:=D.heap.size) (by rfl) a3 (by rfl) (by omega) (by simp) ?_;intro v2 w2 I b1;have H2:Hid (Bw D w2/\w2.ownsRow D.heap.size 5 1 v2 (1+S.size) (n8 (wdR S))):=jz ⟨((ji _ D).alloc (ja _) _).grown b1 (by simp) (λq e=>by cases e;exact ja _),I⟩;obtain⟨A2,c2,rfl,_,_⟩:=aM I;clear I b1)
 have a5:w2.cell? ⟨g,1,none⟩=some (.slice A ps.length cap):=(R.out.1.keep H2.out.1).cell 1;have V:Hid (Sn (w2.alloc (.cells #[.int .u8 (ps.length:Nat)] 5)) 1 (.slice (some ⟨w2.heap.size,0,none⟩) 1 1) 1 [.int .u8 (ps.length:Nat)]):=jz (Sn.new w2 #[.int .u8 (ps.length:Nat)] _ 1 1 rfl);have a1:Hid (D.heap.size<=w2.heap.size):=jz H2.out.1.size;clear d3 d4 b0 a3;go_upto_region 3 with (at_builtin;refine app fQ (.tmp 13) (.tmp 18) rfl (by rfl) (base:=D.heap.size) (by rfl) (H2.out.2.alloc _) (by rfl) V (by simp[Value.oneCell']) (by unfold maxLen;omega) (by omega) (by have:=a1.out;simp;omega) ?_;intro v3 w3 I b2 d2;have H3:Hid (w3.ownsRow D.heap.size 5 1 v3 (jG S ps.length (ps.take 0)).length (n8 (jG S ps.length (ps.take 0)))/\Bw D w3):=jz ⟨by rw[show jG S ps.length (ps.take 0)=wdR S++[ps.length] from rfl,jj,dD,show(wdR S).length=1+S.size from by unfold wdR;rw[List.length_cons,eF];omega];exact I,(H2.out.1.alloc a1 _).grown b2 (by have:=a1.out;simp;omega) (λq e=>(H2.out.2.lt q e).1)⟩;clear I b2 d2)
 clear a5 V a1 H2;go_wp2_with fail
 go_loopw [3,4] (λv i wr=>∃ k:Nat,k<=ps.length/\i = .int .i64 (k:Int)/\Hid (wr.ownsRow D.heap.size 5 1 v (jG S ps.length (ps.take k)).length (n8 (jG S ps.length (ps.take k)))/\Bw D wr)) (λ_ i _=>ps.length-(intOf i).toNat)
 case atStart=>exact⟨0,j0 _,rfl,H3⟩
 case round=>
  clear H3;obtain⟨k,hk,rfl,HO⟩:=hrel;obtain⟨A0,c0,d7,c5,_⟩:=aM HO.out.1;subst d7;clear c5;obtain⟨L,hL⟩:=je ((jG S ps.length (ps.take k)).length);have e7:L<=100000:=by
   have h:=DQ S ps.length (ps.take k) (λs hs=>HA.out.2 s (j7 hs));rw[<- hL,jv] at h;omega
  rw[<- hL] at HO ⊢;have a5:wr.cell? ⟨g,1,none⟩=some (.slice A ps.length cap):=(R.out.1.keep HO.out.2).cell 1;rcases jo k ps.length with Z|f4
  ·have f5:(0:Int)<=k:=by omega
   have f6:(k:Int)<ps.length:=by omega
   obtain⟨P,hP⟩:=je (ps[k]);have a9:=jz hP;have f0:P.size<=255:=by rw[hP];exact HA.out.2 _ (List.getElem_mem Z)
   have e8:IntKind.u8.wrap (P.size:Int)=(P.size:Int):=by rw[IntKind.wrap_u8'];omega
   obtain⟨J,a0⟩:=je wr.drew;have c9:Hid (Bw w wr):=jz (aB R.out.2 HO.out.2);obtain⟨b,off,hA,a2⟩:∃ b off,A=some ⟨b,off,none⟩/\J.cell? ⟨b,off+k,none⟩=some (.string P):=by
    obtain⟨A1,c1,e1,_,_,hx⟩:=HA.out.1.below c9.out;injection e1 with e1 _ _
    obtain⟨b,off,e2,hc⟩:=hx (by omega);exact⟨b,off,e1.trans e2,by rw[a0];exact hc k _ (by simp[hP,Z])⟩
   subst hA;have a4:Hid (jG S ps.length (ps.take (k+1))=jG S ps.length (ps.take k)++[P.size]++bn P/\(jG S ps.length (ps.take (k+1))).length=L+1+P.size):=jz (by
    have e:=KW S ps.length ps k Z
    rw[<- hP] at e
    exact⟨e,by rw[e,jj,jj,<- hL,eF];rfl⟩)
   have HW:Hid (J.ownsRow D.heap.size 5 1 (.slice A0 L c0) L (n8 (jG S ps.length (ps.take k)))/\Bw D J/\D.heap.size<=J.heap.size):=jz (by rw[a0];exact⟨aE HO.out.1 (ji _ _).drew,HO.out.2.drew,HO.out.2.size⟩);have a7:Hid (∀ W,Bw J W->W.cell? ⟨g,1,none⟩=some (.slice (some ⟨b,off,none⟩) ps.length cap)):=jz (λW hW=>((R.out.1.keep HW.out.2.1).keep hW).cell 1);have a8:Hid (∀ W,Bw J W->W.cell? ⟨b,off+k,none⟩=some (.string P)):=jz (λW hW=>j9 hW a2);have d5:Hid (Sn (J.alloc (.cells #[.int .u8 (P.size:Nat)] 5)) 1 (.slice (some ⟨J.heap.size,0,none⟩) 1 1) 1 [.int .u8 (P.size:Nat)]):=jz (Sn.new J #[.int .u8 (P.size:Nat)] _ 1 1 rfl);have U:Hid (Bw J (J.alloc (.cells #[.int .u8 (P.size:Nat)] 5))/\D.heap.size<=(J.alloc (.cells #[.int .u8 (P.size:Nat)] 5)).heap.size):=jz ⟨(ji _ J).alloc (ja _) _,by have:=HW.out.2.2;simp;omega⟩;have c4:Hid ((J.alloc (.cells #[.int .u8 (P.size:Nat)] 5)).ownsRow D.heap.size 5 1 (.slice A0 L c0) L (n8 (jG S ps.length (ps.take k)))):=jz (HW.out.1.alloc _);have e6:Hid (g<D.heap.size):=jz R.out.1.lt;clear hP a2 HO hL;go_upto_region 6 with fail
   clear a5;refine kZ (n:=17) (λW=>W.cell? ⟨g,1,none⟩=some (.slice (some ⟨b,off,none⟩) ps.length cap)/\W.cell? ⟨b,off+k,none⟩=some (.string P)) (by rw[<- a0];exact⟨a7 _ (ji _ _),a8 _ (ji _ _)⟩) (h:=λhH=>?_);simp only[p0];dsimp only [List.replicate];rw[<- a0] at hH ⊢;clear a0;refine qM 0 (.slice A0 L c0) ?_;refine qT 1 (.pointer (some ⟨g,1,none⟩)) ?_;refine qC 2 (v:=.slice (some ⟨b,off,none⟩) ps.length cap) (λW hX=>hX.1) ?_;refine qM 3 (.int .i64 (k:Int)) ?_;refine qT 4 (.pointer (some ⟨b,off+k,none⟩)) ?_;refine qC 5 (v:=.string P) (λW hX=>hX.2) ?_;refine qT 6 (.int .i64 (P.size:Nat)) ?_;refine qT 7 (.int .u8 (P.size:Nat)) ?_;refine qT 10 (.pointer (some ⟨g,1,none⟩)) ?_;refine qC 11 (v:=.slice (some ⟨b,off,none⟩) ps.length cap) (λW hX=>hX.1) ?_;refine qM 12 (.int .i64 (k:Int)) ?_;refine qT 13 (.pointer (some ⟨b,off+k,none⟩)) ?_;refine qC 14 (v:=.string P) (λW hX=>hX.2) ?_;refine kS 8 (some 35) (.slice (some ⟨J.heap.size,0,none⟩) 1 1) (J.alloc (.cells #[.int .u8 (P.size:Nat)] 5)) (hS:=⟨a7.out _ U.out.1,a8 _ U.out.1⟩) (h:=?_);simp only[pe,p5,p2];dsimp only [List.set];refine kAp 9 (some 36) fQ (.tmp 27) (.tmp 35) (base:=D.heap.size) c4 d5 (by simp[Value.oneCell']) (by unfold maxLen;omega) (by omega) U.out.2 (h:=?_);intro v6 w6 K b3;have H6:Hid (w6.ownsRow D.heap.size 5 1 v6 (L+1) (n8 (jG S ps.length (ps.take k))++[.int .u8 (P.size:Nat)])/\Bw D w6/\D.heap.size<=w6.heap.size):=jz (by have hb:=(HW.out.2.1.trans (U.out.1.mono HW.out.2.2)).grown b3 U.out.2 (λq e=>(c4.out.lt q e).1);exact⟨K,hb,hb.size⟩);have d0:Hid (w6.cell? ⟨g,1,none⟩=some (.slice (some ⟨b,off,none⟩) ps.length cap)/\w6.cell? ⟨b,off+k,none⟩=some (.string P)):=jz (by obtain⟨A1,c1,e1,_,_,hx⟩:=HA.out.1.below (aB R.out.2 H6.out.2.1);injection e1 with e1 _ _;obtain⟨b9,o9,e2,hc⟩:=hx (by omega);rw[<- e1] at e2;injection e2 with e2;injection e2 with e3 e4 _;rw[e3,e4];exact⟨by have h:=(R.out.1.keep H6.out.2.1).cell 1;rw[e3,e4] at h;exact h,hc k _ (by simp[a9.out,Z])⟩);obtain⟨A6,c6,rfl,_,_⟩:=aM K;clear K b3;refine⟨d0,λhH=>?_⟩;simp only[pe,p5,p2];dsimp only [List.set];refine WY 15 (some 42) (.tmp 36) (.tmp 41) (s:=P) (base:=D.heap.size) H6.out.1 (by omega) H6.out.2.2 (h:=?_);intro v7 w7 O b7;have H7:Hid (w7.ownsRow D.heap.size 5 1 v7 (jG S ps.length (ps.take (k+1))).length (n8 (jG S ps.length (ps.take (k+1))))/\Bw D w7):=jz ⟨by rw[a4.out.2,a4.out.1,dD,dD];exact O,H6.out.2.1.grown b7 H6.out.2.2 (λq e=>(H6.out.1.lt q e).1)⟩;have d1:Hid (w7.cell? ⟨g,1,none⟩=some (.slice (some ⟨b,off,none⟩) ps.length cap)/\w7.cell? ⟨b,off+k,none⟩=some (.string P)):=jz (by obtain⟨A1,c1,e1,_,_,hx⟩:=HA.out.1.below (aB R.out.2 H7.out.2);injection e1 with e1 _ _;obtain⟨b9,o9,e2,hc⟩:=hx (by omega);rw[<- e1] at e2;injection e2 with e2;injection e2 with e3 e4 _;rw[e3,e4];exact⟨by have h:=(R.out.1.keep H7.out.2).cell 1;rw[e3,e4] at h;exact h,hc k _ (by simp[a9.out,Z])⟩);obtain⟨A7,c7,rfl,_,_⟩:=aM O;clear O b7;refine⟨d1,λhH=>?_⟩;simp only[pe,p5,p2];dsimp only [List.set];refine qT 16 (.slice A7 (L+1+P.size) c7) ?_;refine kE (h:=?_);go_wp2_with fail
   exact⟨⟨k+1,by omega,by go_num,by have h:=H7;rw[a4.out.2] at h ⊢;exact h⟩,by simp[intOf];omega⟩
  ·have c3:k=ps.length:=by omega
   have f7:¬(k:Int)<ps.length:=by omega
   have HF:Hid (wr.ownsRow w.heap.size 5 1 (.slice A0 L c0) (l6 S ps).length (n8 (l6 S ps))/\Bw w wr):=jz (by
    have h:=HO.out
    rw[c3,List.take_length] at h hL
    unfold l6
    rw[<- hL]
    exact⟨aT h.1 R.out.2.size,aB R.out.2 h.2⟩)
   clear HO hL c3;go_wp2_with fail
   go_ret;exact⟨_,rfl,HF.out.1,HF.out.2⟩
end
end Go.Proofs.YtjjlaipkkdncfaaGreatDoor
