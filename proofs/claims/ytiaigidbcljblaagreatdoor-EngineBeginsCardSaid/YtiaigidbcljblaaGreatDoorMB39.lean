import Derived.Test.YtiaigidbcljblaaGreatDoorMB36
import Derived.Test.YtiaigidbcljblaaGreatDoorMB35
set_option linter.unusedVariables false
set_option linter.unusedSimpArgs false
set_option maxRecDepth 100000
set_option maxHeartbeats 40000000
namespace Go.Proofs.YtiaigidbcljblaaGreatDoor
open Go.Proofs.Tryz
section
open Go.RowKit
attribute [local irreducible] wpQuiet wpAnyH
theorem TA.offT{B g t:Nat}{cs:Wa}{r:(TkD×AuD)×Int}{K D:Wv}{c:Int}{W W':Wd}(h:TA B r K D c W)(I:Blk W g t cs)(ht:t≠9)(J:Off g W W'):TA B r K D c W':=by
 obtain⟨h1,v1,v2,O,R,j,x⟩:=h;exact⟨h1,v1,v2,O,R,aP j (λb hb=>J.block b (j.lt b hb).2 (λe=>cD j I ht (by rw[hb,e]))),aP x (λb hb=>J.block b (x.lt b hb).2 (λe=>cD x I ht (by rw[hb,e])))⟩
theorem lZ{w3 W:Wd}{B:Nat}{r:(TkD×AuD)×Int}{g7 D:Nat}{j x:Wv}{c:Int}(K:Blk W g7 123 tkZ)(J:Blk W D 125 auZ)(I:g7≠D)(hb:Bw w3 W)(O:TA B r j x c W)(V:j.length=20)(Z:x.length=5)(R:w3.heap.size<=g7)(U:w3.heap.size<=D):
  VRP w3 (TA B r) (.pointer (some ⟨g7,0,none⟩)) (.pointer (some ⟨D,0,none⟩)) (.int .i64 c) ((W.setCells g7 0 j).setCells D 0 x):=
 ⟨g7,D,j,x,c,rfl,rfl,rfl,(O.offT K (by decide) (dN g7 j 0 (Off.refl g7 W))).offT (Blk.offSet I j J) (by decide) (dN D x 0 (Off.refl D _)),Blk.offSet (Ne.symm I) x (oJ j K (by rw[bH,V])),oJ x (Blk.offSet I j J) (by rw[Z];rfl),aY (aY hb R j) U x⟩
def BR(key:Nat->Nat)(skew:Int)(s:VS)(b:Wl):(Int×Wl)×VS:=(((BN key skew s b).1,if (rqO key b).2=0 then cT (auG (rqO key b).1.2) else z32L),(BN key skew s b).2)
section
variable {w0 w w' : Wd} {gv g9 k N : Nat} {key : Nat -> Nat} {skew : Int} {s : VS} {X : Nat -> Prop}
theorem BS{gm:Nat}{B:Option Addr}{cb cl dl ca:Nat}{kd nn:Int}(b:Wl)(A:Option Addr)(f5:bD key)(m4:TabK w0)(hk:k<=60)(g3:Sn w0 1 (.slice A dl ca) b.length (u8s b))(hb:Bys b)(hl:b.length<=1000000)(h:VE w0 w gv g9 k N key skew s X)(hm:Blk w gm 106 (eY key g9 gv))(hX:X gm):
  Wc 43 #[.pointer (some ⟨gm,0,none⟩),.agg #[.int .i64 kd,.int .i64 nn,.slice A dl ca,.slice B cl cb]] w (MP w0 w gv g9 (k+1) N key skew X (BR key skew s b)):=by
 have hs:=g3.below h.bel;have r2:=jz g3;have H:=jz h;have HM:=jz hm;have HS:=jz hs;have c2:=jz (And.intro hb (And.intro hl hk));have k1:=jz f5;have g0:=jz m4;have k3:=jz h.lt;have k2:=jz h.lo;have m5:dl=b.length:=by
  obtain⟨A',c',e,_⟩:=id hs;injection e
 have h7:=jz m5;clear h hm hs g3 hb hl m5 f5 m4 hk;go_enter func43,ntmps43
 go_upto_region 1 with (refine al 26 dZ rfl rfl fJ ?_)
 obtain⟨gb,d2⟩:=je w.heap.size;obtain⟨w2,c7⟩:=je ((w.alloc (.cells #[.int .i64 kd,.int .i64 nn,.slice A dl ca,.slice B cl cb] 71)).alloc (.cells dZ 26));have d1:Hid (Bw w w2):=jz (by rw[c7];exact aA (aG _ _) (aG _ _));have HO:Hid (Blk w2 gb 71 #[.int .i64 kd,.int .i64 nn,.slice A dl ca,.slice B cl cb]):=jz (by rw[c7,d2];exact(Blk.new _ _ _).alloc _);have HD:Hid (Blk w2 (gb+1) 26 dZ):=jz (by rw[c7,d2];exact Blk.newAt _ _ _ _ (by simp));have f8:Hid (w.heap.size<=gb+1/\gb+1<w2.heap.size):=jz ⟨by omega,by rw[c7,d2];simp⟩;have n4:Hid (w.heap.size<=gb/\gb<w2.heap.size):=jz ⟨by omega,by rw[c7,d2];simp;omega⟩;rw[<- c7];simp only[World.size_alloc,<- d2];clear c7 d2;have k4:=jz (H.out.xw d1);obtain⟨_,c17,_⟩:=dP (HM.keep d1);have o2:=HO.cell 2;simp only[jf,jh,jg] at o2;have HT:=jz (RW (key:=key) b A dl ca k1 g0 ((HS.below d1).below (ji _ _).drew) c2.out.1 c2.out.2.1 c2.out.2.2 k4.drew);obtain⟨V,hV⟩:=je (BN key skew s b);rw[<- hV] at HT;have r6:=jz hV;obtain⟨g1,st⟩:=V;simp only at HT;clear hV
 go_still_tail 6,(by kernel_rfl)
 change wpList _ _ _ _ _ w2.drew;obtain⟨wD,b0⟩:=je w2.drew;rw[<- b0] at HT ⊢;have s0:Hid (XT (XW X w w2) w2 wD):=jz (by rw[b0];exact XT.of_below k4.lt (ji _ _).drew);clear b0 c17 o2;go_wp2_with fail
 refine HT.mono ?_;rintro e w3 ⟨rfl,n0,n1⟩;have e8:=jz n0;have f0:=jz (s0.trans n1);have n3:Hid (Blk w3 (gb+1) 26 dZ):=jz ((f0.block (gb+1) (.inr f8)).trans HD);have q7:Hid (Blk w3 gb 71 #[.int .i64 kd,.int .i64 nn,.slice A dl ca,.slice B cl cb]):=jz ((f0.block gb (.inr n4)).trans HO);have q0:Hid (Blk w3 gm 106 (eY key g9 gv)):=jz ((f0.block gm (.inl hX)).trans (HM.keep d1));clear n0 n1 HT;obtain⟨_,_,m6⟩:=dP q0.out;have o2:=q7.cell 2;simp only[jf,jh,jg] at o2;have r3:=jz (r2.below e8.bel);have c4:Hid (∀ R U c (W:Wd),TA w3.heap.size (rqO key b) R U c W->R.length=20/\U.length=5/\(∀ u∈R,u.oneCell'=true)/\(∀ u∈U,u.oneCell'=true)):=jz (λR U c W h=>h.ok);have b1:Hid (∀ R U c (W W':Wd),TA w3.heap.size (rqO key b) R U c W->Bw W W'->TA w3.heap.size (rqO key b) R U c W'):=jz (λR U c W W' h hb=>h.keep hb);have c9:=jz (RT (key:=key) c2.out.1 c2.out.2.1);have n6:=jz m6;have q6:=jz o2;have c5:Hid (∀ W,Bw w3 W->Wc 71 #[.agg (arr 16 (c8 key)).toArray,.slice A dl ca] W λe W'=>∃ R U c,e = .returned (.tuple #[.agg R.toArray,.agg U.toArray,.int .i64 c])/\TA w3.heap.size (rqO key b) R U c W'/\Bw W W'):=jz (λW hW=>by
  have h1:Sn W 1 (.slice A b.length ca) b.length (u8s b):=by
   have h2:=r3.below hW
   rw[h7.out] at h2
   exact h2
  rw[h7.out]
  refine(zN key b A ca W k1 ((g0.below e8.bel).below hW) h1 c2.out.1 c2.out.2.1).mono ?_
  rintro e W' ⟨R,U,c,h1,h2,h3⟩
  exact⟨R,U,c,h1,h2.base hW.size,h3⟩)
 have d5:Hid (BR key skew s b=((g1,if (rqO key b).2=0 then cT (auG (rqO key b).1.2) else z32L),st)):=jz (by unfold BR;rw[<- r6.out]);obtain⟨r,hr⟩:=je (rqO key b);rw[<- hr] at c4 b1 c5 c9 d5;clear m6 o2 hr;go_upto_region 2 with fail
 go_cut [7,8,9] from 19 to 29 (λv7 v8 v9 wx=>VRP w3 (TA w3.heap.size r) v7 v8 v9 wx)
 case first=>
  -- region 2
  refine kZ (n:=16) (λW=>Bw w3 W) ((ji _ _).drew) (h:=λhH=>?_);refine qM 0 (.pointer (some ⟨gm,0,none⟩)) ?_;refine qT 1 (.pointer (some ⟨gm,0,none⟩)) ?_;refine qT 2 (.pointer (some ⟨gm,0,none⟩)) ?_;refine qL 3 (cs:=arr 16 (c8 key)) (λW hX j u hj=>j9 hX (n6 j u hj)) (aB _ _) ?_;refine qT 4 (.pointer (some ⟨gb,2,none⟩)) ?_;refine qC 5 (v:=.slice A dl ca) (λW hX=>j9 hX q6) ?_;refine jW [6,11,12] (rF 6 (some 26) ((c5 _ hH).mono ?_) (rA 11 (some 7) tkZ eQ (aA hH (aG _ _)) ?_ (rA 12 (some 8) auZ e9 (aA hH (aG _ _)) ?_ jN)))
  ·rintro e w4 ⟨R,U,c,rfl,hp,hb⟩;obtain⟨q1,q2,q3,q4⟩:=c4.out _ _ _ _ hp;have Z:=aA hH hb;refine⟨_,rfl,Z,λ_=>?_⟩;simp only[jq];refine qM 7 (.tuple #[.agg R.toArray,.agg U.toArray,.int .i64 c]) ?_;refine qT 8 (.agg R.toArray) ?_;refine qT 9 (.agg U.toArray) ?_;refine qT 10 (.int .i64 c) ?_;refine jW [11,12] (rA 11 (some 7) tkZ eQ (aA Z (aG _ _)) ?_ (rA 12 (some 8) auZ e9 (aA Z (aG _ _)) ?_ jN))
   ·simp only[jq];obtain⟨g7,J⟩:=je w4.heap.size;obtain⟨w5,a1⟩:=je (w4.alloc (.cells tkZ 123));have hT_5:Blk w5 g7 123 tkZ:=by rw[a1,J];exact Blk.new _ _ _
    have a6:Bw w4 w5:=by rw[a1];exact aG _ _
    have O:=aA Z a6;have D:w3.heap.size<=g7:=by rw[J];exact Z.size
    rw[<- a1,<- J];have c6:=b1.out _ _ _ _ _ hp a6;clear a1 J;refine jW [12] (rA 12 (some 8) auZ e9 (aA O (aG _ _)) ?_ jN);simp only[jq];obtain⟨g8,K⟩:=je w5.heap.size;obtain⟨w6,a2⟩:=je (w5.alloc (.cells auZ 125));have hA_6:Blk w6 g8 125 auZ:=by rw[a2,K];exact Blk.new _ _ _
    have a3:Bw w5 w6:=by rw[a2];exact aG _ _
    have a0:=aA O a3;have I:w3.heap.size<=g8:=by rw[K];exact O.size
    rw[<- a2,<- K];have hT_6:=hT_5.keep a3;have e0:=b1.out _ _ _ _ _ c6 a3;clear a2 K;have x:g7≠g8:=iW hT_6 hA_6 (by decide);have a5:=aY a0 D R;refine kR 13 none (n:=20) (cs:=R) (aV (cs:=tkZ.toList) hT_6 (by rw[jk,bH];omega)) q1 q3 a5 (h:=?_);simp only[jq];have a7:=Blk.offSet x R hA_6;have a8:=aY a5 I U;refine kR 14 none (n:=5) (cs:=U) (aV (cs:=auZ.toList) a7 (by rw[jk];exact ja _)) q2 q4 a8 (h:=?_);simp only[jq];refine qT 15 (.int .i64 c) ?_;refine kE (h:=?_);have a4:=lZ hT_6 hA_6 x a0 e0 q1 q2 D I;go_wp2_with fail
    go_meet
    exact a4
   ·simp only[jq];obtain⟨g8,K⟩:=je w4.heap.size;obtain⟨w5,a1⟩:=je (w4.alloc (.cells auZ 125));have hA_5:Blk w5 g8 125 auZ:=by rw[a1,K];exact Blk.new _ _ _
    have a6:Bw w4 w5:=by rw[a1];exact aG _ _
    have O:=aA Z a6;have I:w3.heap.size<=g8:=by rw[K];exact Z.size
    rw[<- a1,<- K];have c6:=b1.out _ _ _ _ _ hp a6;clear a1 K;refine jW [11] (rA 11 (some 7) tkZ eQ (aA O (aG _ _)) ?_ jN);simp only[jq];obtain⟨g7,J⟩:=je w5.heap.size;obtain⟨w6,a2⟩:=je (w5.alloc (.cells tkZ 123));have hT_6:Blk w6 g7 123 tkZ:=by rw[a2,J];exact Blk.new _ _ _
    have a3:Bw w5 w6:=by rw[a2];exact aG _ _
    have a0:=aA O a3;have D:w3.heap.size<=g7:=by rw[J];exact O.size
    rw[<- a2,<- J];have hA_6:=hA_5.keep a3;have e0:=b1.out _ _ _ _ _ c6 a3;clear a2 J;have x:g7≠g8:=iW hT_6 hA_6 (by decide);have a5:=aY a0 D R;refine kR 13 none (n:=20) (cs:=R) (aV (cs:=tkZ.toList) hT_6 (by rw[jk,bH];omega)) q1 q3 a5 (h:=?_);simp only[jq];have a7:=Blk.offSet x R hA_6;have a8:=aY a5 I U;refine kR 14 none (n:=5) (cs:=U) (aV (cs:=auZ.toList) a7 (by rw[jk];exact ja _)) q2 q4 a8 (h:=?_);simp only[jq];refine qT 15 (.int .i64 c) ?_;refine kE (h:=?_);have a4:=lZ hT_6 hA_6 x a0 e0 q1 q2 D I;go_wp2_with fail
    go_meet
    exact a4
  ·simp only[jq];obtain⟨g7,J⟩:=je w3.drew.heap.size;obtain⟨w4,a9⟩:=je (w3.drew.alloc (.cells tkZ 123));have hT_4:Blk w4 g7 123 tkZ:=by rw[a9,J];exact Blk.new _ _ _
   have b7:Below w3.drew.heap.size w3.drew w4:=by rw[a9];exact aG _ _
   have Z:=aA hH b7;have D:w3.heap.size<=g7:=by rw[J];exact hH.size
   rw[<- a9,<- J];clear a9 J;refine jW [6,12] (rF 6 (some 26) ((c5 _ Z).mono ?_) (rA 12 (some 8) auZ e9 (aA Z (aG _ _)) ?_ jN))
   ·rintro e w5 ⟨R,U,c,rfl,hp,hb⟩;obtain⟨q1,q2,q3,q4⟩:=c4.out _ _ _ _ hp;have O:=aA Z hb;refine⟨_,rfl,O,λ_=>?_⟩;simp only[jq];have hT_5:=hT_4.keep hb;refine qM 7 (.tuple #[.agg R.toArray,.agg U.toArray,.int .i64 c]) ?_;refine qT 8 (.agg R.toArray) ?_;refine qT 9 (.agg U.toArray) ?_;refine qT 10 (.int .i64 c) ?_;refine jW [12] (rA 12 (some 8) auZ e9 (aA O (aG _ _)) ?_ jN);simp only[jq];obtain⟨g8,K⟩:=je w5.heap.size;obtain⟨w6,a2⟩:=je (w5.alloc (.cells auZ 125));have hA_6:Blk w6 g8 125 auZ:=by rw[a2,K];exact Blk.new _ _ _
    have a3:Bw w5 w6:=by rw[a2];exact aG _ _
    have a0:=aA O a3;have I:w3.heap.size<=g8:=by rw[K];exact O.size
    rw[<- a2,<- K];have hT_6:=hT_5.keep a3;have c6:=b1.out _ _ _ _ _ hp a3;clear a2 K;have x:g7≠g8:=iW hT_6 hA_6 (by decide);have a5:=aY a0 D R;refine kR 13 none (n:=20) (cs:=R) (aV (cs:=tkZ.toList) hT_6 (by rw[jk,bH];omega)) q1 q3 a5 (h:=?_);simp only[jq];have a7:=Blk.offSet x R hA_6;have a8:=aY a5 I U;refine kR 14 none (n:=5) (cs:=U) (aV (cs:=auZ.toList) a7 (by rw[jk];exact ja _)) q2 q4 a8 (h:=?_);simp only[jq];refine qT 15 (.int .i64 c) ?_;refine kE (h:=?_);have a4:=lZ hT_6 hA_6 x a0 c6 q1 q2 D I;go_wp2_with fail
    go_meet
    exact a4
   ·simp only[jq];obtain⟨g8,K⟩:=je w4.heap.size;obtain⟨w5,a1⟩:=je (w4.alloc (.cells auZ 125));have hA_5:Blk w5 g8 125 auZ:=by rw[a1,K];exact Blk.new _ _ _
    have a6:Bw w4 w5:=by rw[a1];exact aG _ _
    have O:=aA Z a6;have I:w3.heap.size<=g8:=by rw[K];exact Z.size
    rw[<- a1,<- K];have hT_5:=hT_4.keep a6;clear a1 K;refine jW [6] (rF 6 (some 26) ((c5 _ O).mono ?_) jN);rintro e w6 ⟨R,U,c,rfl,hp,hb⟩;obtain⟨q1,q2,q3,q4⟩:=c4.out _ _ _ _ hp;have a0:=aA O hb;refine⟨_,rfl,a0,λ_=>?_⟩;simp only[jq];have hT_6:=hT_5.keep hb;have hA_6:=hA_5.keep hb;refine qM 7 (.tuple #[.agg R.toArray,.agg U.toArray,.int .i64 c]) ?_;refine qT 8 (.agg R.toArray) ?_;refine qT 9 (.agg U.toArray) ?_;refine qT 10 (.int .i64 c) ?_;have x:g7≠g8:=iW hT_6 hA_6 (by decide);have a5:=aY a0 D R;refine kR 13 none (n:=20) (cs:=R) (aV (cs:=tkZ.toList) hT_6 (by rw[jk,bH];omega)) q1 q3 a5 (h:=?_);simp only[jq];have a7:=Blk.offSet x R hA_6;have a8:=aY a5 I U;refine kR 14 none (n:=5) (cs:=U) (aV (cs:=auZ.toList) a7 (by rw[jk];exact ja _)) q2 q4 a8 (h:=?_);simp only[jq];refine qT 15 (.int .i64 c) ?_;refine kE (h:=?_);have a4:=lZ hT_6 hA_6 x a0 hp q1 q2 D I;go_wp2_with fail
    go_meet
    exact a4
  ·simp only[jq];obtain⟨g8,K⟩:=je w3.drew.heap.size;obtain⟨w4,a9⟩:=je (w3.drew.alloc (.cells auZ 125));have hA_4:Blk w4 g8 125 auZ:=by rw[a9,K];exact Blk.new _ _ _
   have b7:Below w3.drew.heap.size w3.drew w4:=by rw[a9];exact aG _ _
   have Z:=aA hH b7;have I:w3.heap.size<=g8:=by rw[K];exact hH.size
   rw[<- a9,<- K];clear a9 K;refine jW [6,11] (rF 6 (some 26) ((c5 _ Z).mono ?_) (rA 11 (some 7) tkZ eQ (aA Z (aG _ _)) ?_ jN))
   ·rintro e w5 ⟨R,U,c,rfl,hp,hb⟩;obtain⟨q1,q2,q3,q4⟩:=c4.out _ _ _ _ hp;have O:=aA Z hb;refine⟨_,rfl,O,λ_=>?_⟩;simp only[jq];have hA_5:=hA_4.keep hb;refine qM 7 (.tuple #[.agg R.toArray,.agg U.toArray,.int .i64 c]) ?_;refine qT 8 (.agg R.toArray) ?_;refine qT 9 (.agg U.toArray) ?_;refine qT 10 (.int .i64 c) ?_;refine jW [11] (rA 11 (some 7) tkZ eQ (aA O (aG _ _)) ?_ jN);simp only[jq];obtain⟨g7,J⟩:=je w5.heap.size;obtain⟨w6,a2⟩:=je (w5.alloc (.cells tkZ 123));have hT_6:Blk w6 g7 123 tkZ:=by rw[a2,J];exact Blk.new _ _ _
    have a3:Bw w5 w6:=by rw[a2];exact aG _ _
    have a0:=aA O a3;have D:w3.heap.size<=g7:=by rw[J];exact O.size
    rw[<- a2,<- J];have hA_6:=hA_5.keep a3;have c6:=b1.out _ _ _ _ _ hp a3;clear a2 J;have x:g7≠g8:=iW hT_6 hA_6 (by decide);have a5:=aY a0 D R;refine kR 13 none (n:=20) (cs:=R) (aV (cs:=tkZ.toList) hT_6 (by rw[jk,bH];omega)) q1 q3 a5 (h:=?_);simp only[jq];have a7:=Blk.offSet x R hA_6;have a8:=aY a5 I U;refine kR 14 none (n:=5) (cs:=U) (aV (cs:=auZ.toList) a7 (by rw[jk];exact ja _)) q2 q4 a8 (h:=?_);simp only[jq];refine qT 15 (.int .i64 c) ?_;refine kE (h:=?_);have a4:=lZ hT_6 hA_6 x a0 c6 q1 q2 D I;go_wp2_with fail
    go_meet
    exact a4
   ·simp only[jq];obtain⟨g7,J⟩:=je w4.heap.size;obtain⟨w5,a1⟩:=je (w4.alloc (.cells tkZ 123));have hT_5:Blk w5 g7 123 tkZ:=by rw[a1,J];exact Blk.new _ _ _
    have a6:Bw w4 w5:=by rw[a1];exact aG _ _
    have O:=aA Z a6;have D:w3.heap.size<=g7:=by rw[J];exact Z.size
    rw[<- a1,<- J];have hA_5:=hA_4.keep a6;clear a1 J;refine jW [6] (rF 6 (some 26) ((c5 _ O).mono ?_) jN);rintro e w6 ⟨R,U,c,rfl,hp,hb⟩;obtain⟨q1,q2,q3,q4⟩:=c4.out _ _ _ _ hp;have a0:=aA O hb;refine⟨_,rfl,a0,λ_=>?_⟩;simp only[jq];have hA_6:=hA_5.keep hb;have hT_6:=hT_5.keep hb;refine qM 7 (.tuple #[.agg R.toArray,.agg U.toArray,.int .i64 c]) ?_;refine qT 8 (.agg R.toArray) ?_;refine qT 9 (.agg U.toArray) ?_;refine qT 10 (.int .i64 c) ?_;have x:g7≠g8:=iW hT_6 hA_6 (by decide);have a5:=aY a0 D R;refine kR 13 none (n:=20) (cs:=R) (aV (cs:=tkZ.toList) hT_6 (by rw[jk,bH];omega)) q1 q3 a5 (h:=?_);simp only[jq];have a7:=Blk.offSet x R hA_6;have a8:=aY a5 I U;refine kR 14 none (n:=5) (cs:=U) (aV (cs:=auZ.toList) a7 (by rw[jk];exact ja _)) q2 q4 a8 (h:=?_);simp only[jq];refine qT 15 (.int .i64 c) ?_;refine kE (h:=?_);have a4:=lZ hT_6 hA_6 x a0 hp q1 q2 D I;go_wp2_with fail
    go_meet
    exact a4
 case rest=>
  rename Wd=>w4
  obtain⟨g7,g8,R,U,c,rfl,rfl,rfl,hp,s1,m2,b7⟩:=hcut;have d7:=jz (e8.keep b7);have m1:=jz (f0.trans (XT.of_below e8.lt b7));have f6:=jz (n3.keep b7);have f3:c=r.2:=hp.1;have f9:=jz hp;have h0:=jz m2;clear s1 m2 b7 hp c4 b1 c5;by_cases hc0:r.2=0
  ·rw[hc0] at f3;subst f3;have m9:=c9.out hc0;rw[jP hc0] at d5;obtain⟨_,v1,v2,e1,e2,h4,h5⟩:=f9.out;have f7:=jz (sS r.1.2 v2 w4 m9.2 (Sn.own h5) (g0.below d7.bel));rw[<- e2] at f7;have r1:Hid (w4.rangeAt g8 0 U):=jz (by have h:=h0.range;rwa [jt] at h);have n2:Hid ((prog.info? 125).map (·.size)=some U.length):=jz (by rw[e2];exact auI);obtain⟨G,hG⟩:=je (n8 (auG r.1.2));have f1:G.length=32:=by rw[hG,aR];exact kQ _
   have c3:Hid ((prog.info? 26).map (·.size)=some G.toArray.size/\dZ.size=G.toArray.size/\G.toArray.all (·.oneCell')=true/\G.length=32):=jz ⟨by rw[js,f1];kernel_rfl,by
    have h3:G.toArray.size=32:=by rw[js,f1]
    rw[h3];rfl,by rw[hG];exact all_oneCell_toArray (dO _),f1⟩
   have k0:=jz hG;rw[<- hG] at f7;clear hc0 m9 e1 e2 h4 h5 hG f1 c9 f9;go_wp2_with (refine ld 125 (.tmp 8) rfl rfl (by rfl) r1 underlying125 rfl n2 ?_)
   refine f7.mono ?_;rintro e w5 ⟨rfl,a6⟩;go_upto_region 6 with (first
    | (refine al 26 dZ rfl rfl fJ ?_)
    | (refine bZ 26 (.tmp 10) (.tmp 37) rfl rfl (by rfl) (by rfl) c3.out.1 c3.out.2.1 c3.out.2.2.1 ?_;intro w6 g2 a3 t0))
   try simp only[jq]
   obtain⟨g10,f4⟩:=je w5.heap.size;rw[<- f4] at g2 ⊢;obtain⟨wD,b0⟩:=je w6.drew;have d0:Bw w4 wD:=by rw[b0];exact aA a6 (aA a3 (ji _ _).drew)
   have h9:Hid (Blk wD g10 26 G.toArray):=jz (by rw[b0];exact g2);have r5:=jz (d7.keep d0);have r7:=jz (m1.trans (XT.of_below d7.lt d0));have h6:=jz (f6.keep d0);have q5:Hid (gb+1≠g10):=jz (by have:=f6.lt;have:=a6.size;omega);have m3:(wD.setCells (gb+1) 0 G).rangeAt g10 0 G:=by
    have h:=((Off.putsR (gb+1) G 0 (Off.refl _ wD)).blk h9 (Ne.symm q5)).range
    rwa [jt] at h
   refine kZ (n:=4) (λW=>W.rangeAt g10 0 G) (by rw[<- b0];have h:=h9.range;rwa [jt] at h) (h:=λhH=>?_);rw[<- b0] at hH ⊢;refine qM 0 (.int .i64 g1) ?_;refine qL 1 (cs:=G) (λW hW=>hW) c3.out.2.2.2 ?_;refine qT 2 (.int .i64 g1) ?_;refine kR 3 none (n:=32) (cs:=G) (iA h6 (ja _)) c3.out.2.2.2 (by rw[k0.out];exact dO _) m3 (h:=?_);simp only[jq];refine kE (h:=?_);have m8:Off (gb+1) wD (wD.setCells (gb+1) 0 G):=Off.putsR (gb+1) G 0 (Off.refl _ wD);have s5:(wD.setCells (gb+1) 0 G).rangeAt (gb+1) 0 G:=World.rangeAt_setCells_same wD (gb+1) 0 G (by rw[c3.out.2.2.2];exact iA h6 (ja _));have h8:=jz (mP k3 k2 d1 r5 r7 m8 f8);clear m3 hH a6 a3 t0 d0 g2 f4 b0 m8;go_wp2_with fail
   refine bodyPost_ret (d3 rfl _ rfl (cs:=G) s5 underlying26 rfl (by rw[c3.out.2.2.2];kernel_rfl)) rfl ?_;rw[d5.out];refine⟨?_,h8⟩;rw[k0.out,fH];rfl
  ·rw[jQ hc0] at d5;rw[<- f3] at hc0;have t2:¬c=0:=hc0;have t1:=jz d7.out;clear f3 hc0 c9 f9 h0;go_wp2_with (first
    | (refine eC 26 _ rfl rfl rfl iQ ?_)
    | (refine aO 26 (.tmp 5) (.tmp 33) rfl rfl (by rfl) (by rfl) f6 dQ rfl nR ?_;intro w9 s3 f2 s4 t3))
   have r0:Hid (Off (gb+1) w4 w9):=jz ⟨f2.os,f2.tape,f2.output,f2.size,λg _ hg=>s4 g hg⟩;have hr:=s3.range;refine bodyPost_ret (d3 rfl _ rfl hr underlying26 rfl (by rw[jk];exact dQ)) rfl ?_;rw[d5.out];exact⟨rfl,mP k3 k2 d1 d7 m1 r0 f8⟩
end
theorem zQ(key:Nat->Nat)(skew:Int)(j:bD key):ES (BR key skew) (λ_=>True) TabK key skew:=by
 intro w0 w gv g9 gm k N s X x I U K D V R O J;obtain⟨⟨kd,n,d,cs⟩,A,ca,B,cb⟩:=x;have hs:=D.1;rw[zK] at hs;exact BS (B:=B) (cb:=cb) (cl:=cs.length) (dl:=d.length) (ca:=ca) (kd:=kd) (nn:=n) (nP d) A j I (by omega) (by rw[jG];exact hs) (zL d) (by rw[jG];simp only at K;omega) R O J
theorem xJ(key:Nat->Nat)(skew:Int)(s:VS)(b:Wl):(BR key skew s b).1.2.length=32:=by
 unfold BR;simp only;split
 ·rw[aU,kQ]
 ·rfl
end
section
open Go.RowKit
attribute [local irreducible] wpQuiet wpAnyH
def BT(V:eD):Prop:=∀ s b,aD (V s b).1.1/\(V s b).1.2.length=32/\∀ x∈(V s b).1.2,0<=x/\x<=255
theorem nU:z32L.length=32:=rfl
theorem l3:∀ x∈z32L,0<=x/\x<=255:=λx j=>by
 have:=List.eq_of_mem_replicate j;omega
theorem bL{c:Int}(h:0<=c/\c<=100):aD c:=by unfold aD;omega
theorem IP(skew:Int)(s:VS):aD (cN (iP skew s).1):=by
 have:=GP (dR s.d);unfold iP;split <;> exact this
theorem IQ(s:VS):aD (cN (lX s).1):=by
 unfold lX;split
 ·exact bL (c:=12) (by omega)
 ·rename_i C _;exact D1 _ _ _ _
theorem E9(x:Ans):aD (xU x):=by
 unfold xU;split
 ·exact bL (by omega)
 ·exact bL (by omega)
theorem FA(d:DiskD)(h:Nat)(C:CacheD)(q:cH):aD (wH d h C q).1:=by
 unfold wH;split
 ·exact bL (by omega)
 ·split
  ·exact bL (by omega)
  ·exact E9 _
theorem R2(d:DiskD)(h:Nat)(C:CacheD)(q:cH)(now:Int):aD (oO d h C q now).1:=by
 unfold oO;split
 ·exact bL (by omega)
 split
 ·exact bL (by omega)
 split
 ·exact bL (by omega)
 split
 ·exact bL (by omega)
 split
 ·split
  ·exact E9 _
  ·exact FA _ _ _ _
 ·exact FA _ _ _ _
theorem VL(key:Nat->Nat)(s:Wl):aD (tkO key s).2:=by
 unfold tkO;split
 ·exact bL (by omega)
 ·split <;> exact bL (by omega)
theorem VM(key:Nat->Nat)(s:Wl):aD (auO key s).2:=by
 unfold auO;split
 ·exact bL (by omega)
 ·split <;> exact bL (by omega)
theorem VN(key:Nat->Nat)(b:Wl):aD (rqO key b).2:=by
 unfold rqO;split
 ·exact bL (by omega)
 split
 ·exact VL _ _
 split
 ·exact VM _ _
 ·exact bL (by omega)
theorem R3(t:TkD)(a:AuD)(now skew:Int):aD (pJ t a now skew):=by
 unfold pJ
 repeat' split
 all_goals exact bL (by omega)
theorem NN(s:VS):aD (lG s):=by
 unfold lG
 repeat' split
 all_goals exact bL (by omega)
theorem R4(key:Nat->Nat)(skew:Int)(s:VS)(b:Wl):aD (BN key skew s b).1:=by
 unfold BN;split
 ·exact VN _ _
 split
 ·exact R3 _ _ _ _
 split
 ·exact NN _
 split
 ·exact bL (by omega)
 ·exact R2 _ _ _ _ _
theorem IR(key:Nat->Nat)(skew:Int):BT (BR key skew):=λs b=>by
 refine⟨R4 _ _ _ _,xJ _ _ _ _,?_⟩;unfold BR;simp only;split
 ·intro x j;obtain⟨y,hy,rfl⟩:=List.mem_map.1 j;have:=jY _ y hy;omega
 ·exact l3
theorem IS{V:eD}(D:BT V)(skew:Int)(s:VS)(o:OpD):aD (kO V skew s o).1.1/\(kO V skew s o).1.2.length=32/\∀ x∈(kO V skew s o).1.2,0<=x/\x<=255:=by
 have j:aD 0:=bL (by omega);unfold kO;split
 ·exact⟨j,nU,l3⟩
 split
 ·exact⟨IP _ _,nU,l3⟩
 split
 ·exact D _ _
 split
 ·exact⟨IQ _,nU,l3⟩
 split
 ·exact⟨j,nU,l3⟩
 ·exact⟨j,nU,l3⟩
theorem FB{V:eD}(I:BT V)(skew:Int)(n:Nat)(K:n<=1000):∀(l:List OpD) (s:VS),(∀ o∈l,aE o=true)->(∀ x∈dU V skew s l,IH n x)->∀ x∈dU V skew s l,RowOk x
 | [],s,_,_,x,hx=>by cases hx
 | o :: l,s,hr,hl,x,hx=>by
  have D:x∈mN V skew s o :: dU V skew (fF V skew s o) l:=hx;rcases List.mem_cons.1 D with rfl|h1
  ·have j:=IS I skew s o;have R:=nS (hr o (List.mem_cons_self ..));have J:=hl (mN V skew s o) (show _∈mN V skew s o :: _ from List.mem_cons_self ..);unfold IH at J;exact⟨bL (by show 0<=o.kind/\o.kind<=100;omega),j.1,by unfold aD;omega,by unfold aD;omega,j.2.1,j.2.2⟩
  ·exact FB I skew n K l (fF V skew s o) (λO h=>hr O (List.mem_cons_of_mem _ h)) (λy hy=>hl y (show y∈mN V skew s o :: dU V skew (fF V skew s o) l from List.mem_cons_of_mem _ hy)) x h1
theorem xK{l:List OpD}(h:kP l=none):∀ o∈l,aE o=true:=λo j=>by
 have:=List.findIdx?_eq_none_iff.1 h o j;simpa using this
theorem VO{V:eD}(I:BT V)(c:ConfD)(l:List OpD)(n:Nat)(J:n<=1000)(j:∀ x∈(dC V c l).2,IH n x):∀ x∈(dC V c l).2,RowOk x:=by
 unfold dC at j ⊢;split at j
 ·rename_i h;rw[jP h];intro x D;cases D
 ·rename_i h;rw[jQ h];cases hb:kP l with
  | some i=>
   simp only;intro x D;cases D
  | none=>
   rw[hb] at j;exact FB I c.skew n J l _ (xK hb) j
end
end Go.Proofs.YtiaigidbcljblaaGreatDoor
