import Derived.Test.YtiaigidbcljblaaGreatDoorMS36
import Derived.Test.YtiaigidbcljblaaGreatDoorMS35
set_option linter.unusedVariables false
set_option linter.unusedSimpArgs false
set_option maxRecDepth 100000
set_option maxHeartbeats 40000000
namespace Go.Proofs.YtiaigidbcljblaaGreatDoor
open Go.Proofs.Tryz
section
open Go.RowKit
attribute [local irreducible] wpQuiet wpAnyH
theorem TA.offT{B g t:Nat}{cs:Wa}{r:(TkD×AuD)×Int}{K D:Wv}{c:Int}{W W':Wd}(h:TA B r K D c W)(I:Blk W g t cs)(ht:t≠9)(J:Off g W W'):TA B r K D c W':=by
 obtain⟨h1,v1,v2,O,R,j,x⟩:=h;exact⟨h1,v1,v2,O,R,aQ j (λb hb=>J.block b (j.lt b hb).2 (λe=>cJ j I ht (by rw[hb,e]))),aQ x (λb hb=>J.block b (x.lt b hb).2 (λe=>cJ x I ht (by rw[hb,e])))⟩
theorem mF{w3 W:Wd}{B:Nat}{r:(TkD×AuD)×Int}{g7 D:Nat}{j x:Wv}{c:Int}(K:Blk W g7 123 tkZ)(J:Blk W D 125 auZ)(I:g7≠D)(hb:Bw w3 W)(O:TA B r j x c W)(V:j.length=20)(Z:x.length=5)(R:w3.heap.size<=g7)(U:w3.heap.size<=D):
  VRP w3 (TA B r) (.pointer (some ⟨g7,0,none⟩)) (.pointer (some ⟨D,0,none⟩)) (.int .i64 c) ((W.setCells g7 0 j).setCells D 0 x):=
 ⟨g7,D,j,x,c,rfl,rfl,rfl,(O.offT K (by decide) (dS g7 j 0 (Off.refl g7 W))).offT (Blk.offSet I j J) (by decide) (dS D x 0 (Off.refl D _)),Blk.offSet (Ne.symm I) x (o9 j K (by rw[bK,V])),o9 x (Blk.offSet I j J) (by rw[Z];rfl),bA (bA hb R j) U x⟩
def C8(key:Nat->Nat)(skew:Int)(s:VS)(b:Wl):(Int×Wl)×VS:=(((C4 key skew s b).1,if (rqO key b).2=0 then cY (auG (rqO key b).1.2) else z32L),(C4 key skew s b).2)
section
variable {w0 w w' : Wd} {gv g9 k N : Nat} {key : Nat -> Nat} {skew : Int} {s : VS} {X : Nat -> Prop}
theorem C9{gm:Nat}{B:Option Addr}{cb cl dl ca:Nat}{kd nn:Int}(b:Wl)(A:Option Addr)(f6:bG key)(m5:TabK w0)(hk:k<=60)(h0:Sn w0 1 (.slice A dl ca) b.length (u8s b))(hb:Bys b)(hl:b.length<=1000000)(h:VE w0 w gv g9 k N key skew s X)(hm:Blk w gm 106 (fA key g9 gv))(hX:X gm):
  Wc 43 #[.pointer (some ⟨gm,0,none⟩),.agg #[.int .i64 kd,.int .i64 nn,.slice A dl ca,.slice B cl cb]] w (MP w0 w gv g9 (k+1) N key skew X (C8 key skew s b)):=by
 have hs:=h0.below h.bel;have r3:=jz h0;have H:=jz h;have HM:=jz hm;have HS:=jz hs;have c2:=jz (And.intro hb (And.intro hl hk));have k2:=jz f6;have g1:=jz m5;have k4:=jz h.lt;have k3:=jz h.lo;have m6:dl=b.length:=by
  obtain⟨A',c',e,_⟩:=id hs;injection e
 have h8:=jz m6;clear h hm hs h0 hb hl m6 f6 m5 hk;go_enter func43,ntmps43
 go_upto_region 1 with (refine al 26 dZ rfl rfl fM ?_)
 obtain⟨gb,d2⟩:=je w.heap.size;obtain⟨w2,c7⟩:=je ((w.alloc (.cells #[.int .i64 kd,.int .i64 nn,.slice A dl ca,.slice B cl cb] 71)).alloc (.cells dZ 26));have d1:Hid (Bw w w2):=jz (by rw[c7];exact aA (aH _ _) (aH _ _));have HO:Hid (Blk w2 gb 71 #[.int .i64 kd,.int .i64 nn,.slice A dl ca,.slice B cl cb]):=jz (by rw[c7,d2];exact(Blk.new _ _ _).alloc _);have HD:Hid (Blk w2 (gb+1) 26 dZ):=jz (by rw[c7,d2];exact Blk.newAt _ _ _ _ (by simp));have f9:Hid (w.heap.size<=gb+1/\gb+1<w2.heap.size):=jz ⟨by omega,by rw[c7,d2];simp⟩;have n6:Hid (w.heap.size<=gb/\gb<w2.heap.size):=jz ⟨by omega,by rw[c7,d2];simp;omega⟩;rw[<- c7];simp only[World.size_alloc,<- d2];clear c7 d2;have m1:=jz (H.out.xw d1);obtain⟨_,c17,_⟩:=dV (HM.keep d1);have o2:=HO.cell 2;simp only[jf,jh,jg] at o2;have HT:=jz (TH (key:=key) b A dl ca k2 g1 ((HS.below d1).below (ji _ _).drew) c2.out.1 c2.out.2.1 c2.out.2.2 m1.drew);obtain⟨V,hV⟩:=je (C4 key skew s b);rw[<- hV] at HT;have r7:=jz hV;obtain⟨g2,st⟩:=V;simp only at HT;clear hV
 go_still_tail 6,(by kernel_rfl)
 change wpList _ _ _ _ _ w2.drew;obtain⟨wD,b0⟩:=je w2.drew;rw[<- b0] at HT ⊢;have s1:Hid (XT (XW X w w2) w2 wD):=jz (by rw[b0];exact XT.of_below m1.lt (ji _ _).drew);clear b0 c17 o2;go_wp2_with fail
 refine HT.mono ?_;rintro e w3 ⟨rfl,n1,n2⟩;have e8:=jz n1;have f0:=jz (s1.trans n2);have n4:Hid (Blk w3 (gb+1) 26 dZ):=jz ((f0.block (gb+1) (.inr f9)).trans HD);have r0:Hid (Blk w3 gb 71 #[.int .i64 kd,.int .i64 nn,.slice A dl ca,.slice B cl cb]):=jz ((f0.block gb (.inr n6)).trans HO);have q5:Hid (Blk w3 gm 106 (fA key g9 gv)):=jz ((f0.block gm (.inl hX)).trans (HM.keep d1));clear n1 n2 HT;obtain⟨_,_,m8⟩:=dV q5.out;have o2:=r0.cell 2;simp only[jf,jh,jg] at o2;have r5:=jz (r3.below e8.bel);have c4:Hid (∀ R U c (W:Wd),TA w3.heap.size (rqO key b) R U c W->R.length=20/\U.length=5/\(∀ u∈R,u.oneCell'=true)/\(∀ u∈U,u.oneCell'=true)):=jz (λR U c W h=>h.ok);have b1:Hid (∀ R U c (W W':Wd),TA w3.heap.size (rqO key b) R U c W->Bw W W'->TA w3.heap.size (rqO key b) R U c W'):=jz (λR U c W W' h hb=>h.keep hb);have c9:=jz (TG (key:=key) c2.out.1 c2.out.2.1);have q0:=jz m8;have q7:=jz o2;have c5:Hid (∀ W,Bw w3 W->Wc 71 #[.agg (arr 16 (c8 key)).toArray,.slice A dl ca] W λe W'=>∃ R U c,e = .returned (.tuple #[.agg R.toArray,.agg U.toArray,.int .i64 c])/\TA w3.heap.size (rqO key b) R U c W'/\Bw W W'):=jz (λW hW=>by
  have h1:Sn W 1 (.slice A b.length ca) b.length (u8s b):=by
   have h2:=r5.below hW
   rw[h8.out] at h2
   exact h2
  rw[h8.out]
  refine(AY key b A ca W k2 ((g1.below e8.bel).below hW) h1 c2.out.1 c2.out.2.1).mono ?_
  rintro e W' ⟨R,U,c,h1,h2,h3⟩
  exact⟨R,U,c,h1,h2.base hW.size,h3⟩)
 have d5:Hid (C8 key skew s b=((g2,if (rqO key b).2=0 then cY (auG (rqO key b).1.2) else z32L),st)):=jz (by unfold C8;rw[<- r7.out]);obtain⟨r,hr⟩:=je (rqO key b);rw[<- hr] at c4 b1 c5 c9 d5;clear m8 o2 hr;go_upto_region 2 with fail
 go_cut [7,8,9] from 19 to 29 (λv7 v8 v9 wx=>VRP w3 (TA w3.heap.size r) v7 v8 v9 wx)
 case first=>
  -- region 2
  refine kZ (n:=16) (λW=>Bw w3 W) ((ji _ _).drew) (h:=λhH=>?_);refine qM 0 (.pointer (some ⟨gm,0,none⟩)) ?_;refine qT 1 (.pointer (some ⟨gm,0,none⟩)) ?_;refine qT 2 (.pointer (some ⟨gm,0,none⟩)) ?_;refine qL 3 (cs:=arr 16 (c8 key)) (λW hX j u hj=>j9 hX (q0 j u hj)) (aB _ _) ?_;refine qT 4 (.pointer (some ⟨gb,2,none⟩)) ?_;refine qC 5 (v:=.slice A dl ca) (λW hX=>j9 hX q7) ?_;refine jW [6,11,12] (rF 6 (some 26) ((c5 _ hH).mono ?_) (rA 11 (some 7) tkZ eT (aA hH (aH _ _)) ?_ (rA 12 (some 8) auZ fC (aA hH (aH _ _)) ?_ jN)))
  ·rintro e w4 ⟨R,U,c,rfl,hp,hb⟩;obtain⟨q1,q2,q3,q4⟩:=c4.out _ _ _ _ hp;have Z:=aA hH hb;refine⟨_,rfl,Z,λ_=>?_⟩;simp only[jq];refine qM 7 (.tuple #[.agg R.toArray,.agg U.toArray,.int .i64 c]) ?_;refine qT 8 (.agg R.toArray) ?_;refine qT 9 (.agg U.toArray) ?_;refine qT 10 (.int .i64 c) ?_;refine jW [11,12] (rA 11 (some 7) tkZ eT (aA Z (aH _ _)) ?_ (rA 12 (some 8) auZ fC (aA Z (aH _ _)) ?_ jN))
   ·simp only[jq];obtain⟨g7,J⟩:=je w4.heap.size;obtain⟨w5,a1⟩:=je (w4.alloc (.cells tkZ 123));have hT_5:Blk w5 g7 123 tkZ:=by rw[a1,J];exact Blk.new _ _ _
    have a6:Bw w4 w5:=by rw[a1];exact aH _ _
    have O:=aA Z a6;have D:w3.heap.size<=g7:=by rw[J];exact Z.size
    rw[<- a1,<- J];have c6:=b1.out _ _ _ _ _ hp a6;clear a1 J;refine jW [12] (rA 12 (some 8) auZ fC (aA O (aH _ _)) ?_ jN);simp only[jq];obtain⟨g8,K⟩:=je w5.heap.size;obtain⟨w6,a2⟩:=je (w5.alloc (.cells auZ 125));have hA_6:Blk w6 g8 125 auZ:=by rw[a2,K];exact Blk.new _ _ _
    have a3:Bw w5 w6:=by rw[a2];exact aH _ _
    have a0:=aA O a3;have I:w3.heap.size<=g8:=by rw[K];exact O.size
    rw[<- a2,<- K];have hT_6:=hT_5.keep a3;have e0:=b1.out _ _ _ _ _ c6 a3;clear a2 K;have x:g7≠g8:=i7 hT_6 hA_6 (by decide);have a5:=bA a0 D R;refine kR 13 none (n:=20) (cs:=R) (aW (cs:=tkZ.toList) hT_6 (by rw[jk,bK];omega)) q1 q3 a5 (h:=?_);simp only[jq];have a7:=Blk.offSet x R hA_6;have a8:=bA a5 I U;refine kR 14 none (n:=5) (cs:=U) (aW (cs:=auZ.toList) a7 (by rw[jk];exact ja _)) q2 q4 a8 (h:=?_);simp only[jq];refine qT 15 (.int .i64 c) ?_;refine kE (h:=?_);have a4:=mF hT_6 hA_6 x a0 e0 q1 q2 D I;go_wp2_with fail
    go_meet
    exact a4
   ·simp only[jq];obtain⟨g8,K⟩:=je w4.heap.size;obtain⟨w5,a1⟩:=je (w4.alloc (.cells auZ 125));have hA_5:Blk w5 g8 125 auZ:=by rw[a1,K];exact Blk.new _ _ _
    have a6:Bw w4 w5:=by rw[a1];exact aH _ _
    have O:=aA Z a6;have I:w3.heap.size<=g8:=by rw[K];exact Z.size
    rw[<- a1,<- K];have c6:=b1.out _ _ _ _ _ hp a6;clear a1 K;refine jW [11] (rA 11 (some 7) tkZ eT (aA O (aH _ _)) ?_ jN);simp only[jq];obtain⟨g7,J⟩:=je w5.heap.size;obtain⟨w6,a2⟩:=je (w5.alloc (.cells tkZ 123));have hT_6:Blk w6 g7 123 tkZ:=by rw[a2,J];exact Blk.new _ _ _
    have a3:Bw w5 w6:=by rw[a2];exact aH _ _
    have a0:=aA O a3;have D:w3.heap.size<=g7:=by rw[J];exact O.size
    rw[<- a2,<- J];have hA_6:=hA_5.keep a3;have e0:=b1.out _ _ _ _ _ c6 a3;clear a2 J;have x:g7≠g8:=i7 hT_6 hA_6 (by decide);have a5:=bA a0 D R;refine kR 13 none (n:=20) (cs:=R) (aW (cs:=tkZ.toList) hT_6 (by rw[jk,bK];omega)) q1 q3 a5 (h:=?_);simp only[jq];have a7:=Blk.offSet x R hA_6;have a8:=bA a5 I U;refine kR 14 none (n:=5) (cs:=U) (aW (cs:=auZ.toList) a7 (by rw[jk];exact ja _)) q2 q4 a8 (h:=?_);simp only[jq];refine qT 15 (.int .i64 c) ?_;refine kE (h:=?_);have a4:=mF hT_6 hA_6 x a0 e0 q1 q2 D I;go_wp2_with fail
    go_meet
    exact a4
  ·simp only[jq];obtain⟨g7,J⟩:=je w3.drew.heap.size;obtain⟨w4,a9⟩:=je (w3.drew.alloc (.cells tkZ 123));have hT_4:Blk w4 g7 123 tkZ:=by rw[a9,J];exact Blk.new _ _ _
   have b7:Below w3.drew.heap.size w3.drew w4:=by rw[a9];exact aH _ _
   have Z:=aA hH b7;have D:w3.heap.size<=g7:=by rw[J];exact hH.size
   rw[<- a9,<- J];clear a9 J;refine jW [6,12] (rF 6 (some 26) ((c5 _ Z).mono ?_) (rA 12 (some 8) auZ fC (aA Z (aH _ _)) ?_ jN))
   ·rintro e w5 ⟨R,U,c,rfl,hp,hb⟩;obtain⟨q1,q2,q3,q4⟩:=c4.out _ _ _ _ hp;have O:=aA Z hb;refine⟨_,rfl,O,λ_=>?_⟩;simp only[jq];have hT_5:=hT_4.keep hb;refine qM 7 (.tuple #[.agg R.toArray,.agg U.toArray,.int .i64 c]) ?_;refine qT 8 (.agg R.toArray) ?_;refine qT 9 (.agg U.toArray) ?_;refine qT 10 (.int .i64 c) ?_;refine jW [12] (rA 12 (some 8) auZ fC (aA O (aH _ _)) ?_ jN);simp only[jq];obtain⟨g8,K⟩:=je w5.heap.size;obtain⟨w6,a2⟩:=je (w5.alloc (.cells auZ 125));have hA_6:Blk w6 g8 125 auZ:=by rw[a2,K];exact Blk.new _ _ _
    have a3:Bw w5 w6:=by rw[a2];exact aH _ _
    have a0:=aA O a3;have I:w3.heap.size<=g8:=by rw[K];exact O.size
    rw[<- a2,<- K];have hT_6:=hT_5.keep a3;have c6:=b1.out _ _ _ _ _ hp a3;clear a2 K;have x:g7≠g8:=i7 hT_6 hA_6 (by decide);have a5:=bA a0 D R;refine kR 13 none (n:=20) (cs:=R) (aW (cs:=tkZ.toList) hT_6 (by rw[jk,bK];omega)) q1 q3 a5 (h:=?_);simp only[jq];have a7:=Blk.offSet x R hA_6;have a8:=bA a5 I U;refine kR 14 none (n:=5) (cs:=U) (aW (cs:=auZ.toList) a7 (by rw[jk];exact ja _)) q2 q4 a8 (h:=?_);simp only[jq];refine qT 15 (.int .i64 c) ?_;refine kE (h:=?_);have a4:=mF hT_6 hA_6 x a0 c6 q1 q2 D I;go_wp2_with fail
    go_meet
    exact a4
   ·simp only[jq];obtain⟨g8,K⟩:=je w4.heap.size;obtain⟨w5,a1⟩:=je (w4.alloc (.cells auZ 125));have hA_5:Blk w5 g8 125 auZ:=by rw[a1,K];exact Blk.new _ _ _
    have a6:Bw w4 w5:=by rw[a1];exact aH _ _
    have O:=aA Z a6;have I:w3.heap.size<=g8:=by rw[K];exact Z.size
    rw[<- a1,<- K];have hT_5:=hT_4.keep a6;clear a1 K;refine jW [6] (rF 6 (some 26) ((c5 _ O).mono ?_) jN);rintro e w6 ⟨R,U,c,rfl,hp,hb⟩;obtain⟨q1,q2,q3,q4⟩:=c4.out _ _ _ _ hp;have a0:=aA O hb;refine⟨_,rfl,a0,λ_=>?_⟩;simp only[jq];have hT_6:=hT_5.keep hb;have hA_6:=hA_5.keep hb;refine qM 7 (.tuple #[.agg R.toArray,.agg U.toArray,.int .i64 c]) ?_;refine qT 8 (.agg R.toArray) ?_;refine qT 9 (.agg U.toArray) ?_;refine qT 10 (.int .i64 c) ?_;have x:g7≠g8:=i7 hT_6 hA_6 (by decide);have a5:=bA a0 D R;refine kR 13 none (n:=20) (cs:=R) (aW (cs:=tkZ.toList) hT_6 (by rw[jk,bK];omega)) q1 q3 a5 (h:=?_);simp only[jq];have a7:=Blk.offSet x R hA_6;have a8:=bA a5 I U;refine kR 14 none (n:=5) (cs:=U) (aW (cs:=auZ.toList) a7 (by rw[jk];exact ja _)) q2 q4 a8 (h:=?_);simp only[jq];refine qT 15 (.int .i64 c) ?_;refine kE (h:=?_);have a4:=mF hT_6 hA_6 x a0 hp q1 q2 D I;go_wp2_with fail
    go_meet
    exact a4
  ·simp only[jq];obtain⟨g8,K⟩:=je w3.drew.heap.size;obtain⟨w4,a9⟩:=je (w3.drew.alloc (.cells auZ 125));have hA_4:Blk w4 g8 125 auZ:=by rw[a9,K];exact Blk.new _ _ _
   have b7:Below w3.drew.heap.size w3.drew w4:=by rw[a9];exact aH _ _
   have Z:=aA hH b7;have I:w3.heap.size<=g8:=by rw[K];exact hH.size
   rw[<- a9,<- K];clear a9 K;refine jW [6,11] (rF 6 (some 26) ((c5 _ Z).mono ?_) (rA 11 (some 7) tkZ eT (aA Z (aH _ _)) ?_ jN))
   ·rintro e w5 ⟨R,U,c,rfl,hp,hb⟩;obtain⟨q1,q2,q3,q4⟩:=c4.out _ _ _ _ hp;have O:=aA Z hb;refine⟨_,rfl,O,λ_=>?_⟩;simp only[jq];have hA_5:=hA_4.keep hb;refine qM 7 (.tuple #[.agg R.toArray,.agg U.toArray,.int .i64 c]) ?_;refine qT 8 (.agg R.toArray) ?_;refine qT 9 (.agg U.toArray) ?_;refine qT 10 (.int .i64 c) ?_;refine jW [11] (rA 11 (some 7) tkZ eT (aA O (aH _ _)) ?_ jN);simp only[jq];obtain⟨g7,J⟩:=je w5.heap.size;obtain⟨w6,a2⟩:=je (w5.alloc (.cells tkZ 123));have hT_6:Blk w6 g7 123 tkZ:=by rw[a2,J];exact Blk.new _ _ _
    have a3:Bw w5 w6:=by rw[a2];exact aH _ _
    have a0:=aA O a3;have D:w3.heap.size<=g7:=by rw[J];exact O.size
    rw[<- a2,<- J];have hA_6:=hA_5.keep a3;have c6:=b1.out _ _ _ _ _ hp a3;clear a2 J;have x:g7≠g8:=i7 hT_6 hA_6 (by decide);have a5:=bA a0 D R;refine kR 13 none (n:=20) (cs:=R) (aW (cs:=tkZ.toList) hT_6 (by rw[jk,bK];omega)) q1 q3 a5 (h:=?_);simp only[jq];have a7:=Blk.offSet x R hA_6;have a8:=bA a5 I U;refine kR 14 none (n:=5) (cs:=U) (aW (cs:=auZ.toList) a7 (by rw[jk];exact ja _)) q2 q4 a8 (h:=?_);simp only[jq];refine qT 15 (.int .i64 c) ?_;refine kE (h:=?_);have a4:=mF hT_6 hA_6 x a0 c6 q1 q2 D I;go_wp2_with fail
    go_meet
    exact a4
   ·simp only[jq];obtain⟨g7,J⟩:=je w4.heap.size;obtain⟨w5,a1⟩:=je (w4.alloc (.cells tkZ 123));have hT_5:Blk w5 g7 123 tkZ:=by rw[a1,J];exact Blk.new _ _ _
    have a6:Bw w4 w5:=by rw[a1];exact aH _ _
    have O:=aA Z a6;have D:w3.heap.size<=g7:=by rw[J];exact Z.size
    rw[<- a1,<- J];have hA_5:=hA_4.keep a6;clear a1 J;refine jW [6] (rF 6 (some 26) ((c5 _ O).mono ?_) jN);rintro e w6 ⟨R,U,c,rfl,hp,hb⟩;obtain⟨q1,q2,q3,q4⟩:=c4.out _ _ _ _ hp;have a0:=aA O hb;refine⟨_,rfl,a0,λ_=>?_⟩;simp only[jq];have hA_6:=hA_5.keep hb;have hT_6:=hT_5.keep hb;refine qM 7 (.tuple #[.agg R.toArray,.agg U.toArray,.int .i64 c]) ?_;refine qT 8 (.agg R.toArray) ?_;refine qT 9 (.agg U.toArray) ?_;refine qT 10 (.int .i64 c) ?_;have x:g7≠g8:=i7 hT_6 hA_6 (by decide);have a5:=bA a0 D R;refine kR 13 none (n:=20) (cs:=R) (aW (cs:=tkZ.toList) hT_6 (by rw[jk,bK];omega)) q1 q3 a5 (h:=?_);simp only[jq];have a7:=Blk.offSet x R hA_6;have a8:=bA a5 I U;refine kR 14 none (n:=5) (cs:=U) (aW (cs:=auZ.toList) a7 (by rw[jk];exact ja _)) q2 q4 a8 (h:=?_);simp only[jq];refine qT 15 (.int .i64 c) ?_;refine kE (h:=?_);have a4:=mF hT_6 hA_6 x a0 hp q1 q2 D I;go_wp2_with fail
    go_meet
    exact a4
 case rest=>
  rename Wd=>w4
  obtain⟨g7,g8,R,U,c,rfl,rfl,rfl,hp,s3,m3,b7⟩:=hcut;have d7:=jz (e8.keep b7);have m2:=jz (f0.trans (XT.of_below e8.lt b7));have f7:=jz (n4.keep b7);have f3:c=r.2:=hp.1;have g0:=jz hp;have h6:=jz m3;clear s3 m3 b7 hp c4 b1 c5;by_cases hc0:r.2=0
  ·rw[hc0] at f3;subst f3;have n0:=c9.out hc0;rw[jP hc0] at d5;obtain⟨_,v1,v2,e1,e2,h4,h5⟩:=g0.out;have f8:=jz (tN r.1.2 v2 w4 n0.2 (Sn.own h5) (g1.below d7.bel));rw[<- e2] at f8;have r2:Hid (w4.rangeAt g8 0 U):=jz (by have h:=h6.range;rwa [jt] at h);have n3:Hid ((prog.info? 125).map (·.size)=some U.length):=jz (by rw[e2];exact auI);obtain⟨G,hG⟩:=je (n8 (auG r.1.2));have f1:G.length=32:=by rw[hG,aS];exact lA _
   have c3:Hid ((prog.info? 26).map (·.size)=some G.toArray.size/\dZ.size=G.toArray.size/\G.toArray.all (·.oneCell')=true/\G.length=32):=jz ⟨by rw[js,f1];kernel_rfl,by
    have h3:G.toArray.size=32:=by rw[js,f1]
    rw[h3];rfl,by rw[hG];exact all_oneCell_toArray (dU _),f1⟩
   have k1:=jz hG;rw[<- hG] at f8;clear hc0 n0 e1 e2 h4 h5 hG f1 c9 g0;go_wp2_with (refine ld 125 (.tmp 8) rfl rfl (by rfl) r2 underlying125 rfl n3 ?_)
   refine f8.mono ?_;rintro e w5 ⟨rfl,a6⟩;go_upto_region 6 with (first
    | (refine al 26 dZ rfl rfl fM ?_)
    | (refine bZ 26 (.tmp 10) (.tmp 37) rfl rfl (by rfl) (by rfl) c3.out.1 c3.out.2.1 c3.out.2.2.1 ?_;intro w6 g3 a3 t1))
   try simp only[jq]
   obtain⟨g10,f5⟩:=je w5.heap.size;rw[<- f5] at g3 ⊢;obtain⟨wD,b0⟩:=je w6.drew;have d0:Bw w4 wD:=by rw[b0];exact aA a6 (aA a3 (ji _ _).drew)
   have k0:Hid (Blk wD g10 26 G.toArray):=jz (by rw[b0];exact g3);have r6:=jz (d7.keep d0);have s0:=jz (m2.trans (XT.of_below d7.lt d0));have h7:=jz (f7.keep d0);have q6:Hid (gb+1≠g10):=jz (by have:=f7.lt;have:=a6.size;omega);have m4:(wD.setCells (gb+1) 0 G).rangeAt g10 0 G:=by
    have h:=((Off.putsR (gb+1) G 0 (Off.refl _ wD)).blk k0 (Ne.symm q6)).range
    rwa [jt] at h
   refine kZ (n:=4) (λW=>W.rangeAt g10 0 G) (by rw[<- b0];have h:=k0.range;rwa [jt] at h) (h:=λhH=>?_);rw[<- b0] at hH ⊢;refine qM 0 (.int .i64 g2) ?_;refine qL 1 (cs:=G) (λW hW=>hW) c3.out.2.2.2 ?_;refine qT 2 (.int .i64 g2) ?_;refine kR 3 none (n:=32) (cs:=G) (iD h7 (ja _)) c3.out.2.2.2 (by rw[k1.out];exact dU _) m4 (h:=?_);simp only[jq];refine kE (h:=?_);have m9:Off (gb+1) wD (wD.setCells (gb+1) 0 G):=Off.putsR (gb+1) G 0 (Off.refl _ wD);have t0:(wD.setCells (gb+1) 0 G).rangeAt (gb+1) 0 G:=World.rangeAt_setCells_same wD (gb+1) 0 G (by rw[c3.out.2.2.2];exact iD h7 (ja _));have h9:=jz (nD k4 k3 d1 r6 s0 m9 f9);clear m4 hH a6 a3 t1 d0 g3 f5 b0 m9;go_wp2_with fail
   refine bodyPost_ret (d9 rfl _ rfl (cs:=G) t0 underlying26 rfl (by rw[c3.out.2.2.2];kernel_rfl)) rfl ?_;rw[d5.out];refine⟨?_,h9⟩;rw[k1.out,fK];rfl
  ·rw[jQ hc0] at d5;rw[<- f3] at hc0;have t3:¬c=0:=hc0;have t2:=jz d7.out;clear f3 hc0 c9 g0 h6;go_wp2_with (first
    | (refine eQ 26 _ rfl rfl rfl iV ?_)
    | (refine aP 26 (.tmp 5) (.tmp 33) rfl rfl (by rfl) (by rfl) f7 dX rfl oK ?_;intro w9 s4 f2 s5 t4))
   have r1:Hid (Off (gb+1) w4 w9):=jz ⟨f2.os,f2.tape,f2.output,f2.size,λg _ hg=>s5 g hg⟩;have hr:=s4.range;refine bodyPost_ret (d9 rfl _ rfl hr underlying26 rfl (by rw[jk];exact dX)) rfl ?_;rw[d5.out];exact⟨rfl,nD k4 k3 d1 d7 m2 r1 f9⟩
end
theorem BB(key:Nat->Nat)(skew:Int)(j:bG key):F6 (C8 key skew) (λ_=>True) TabK key skew:=by
 intro w0 w gv g9 gm k N s X x I U K D V R O J;obtain⟨⟨kd,n,d,cs⟩,A,ca,B,cb⟩:=x;have hs:=D.1;rw[AV] at hs;exact C9 (B:=B) (cb:=cb) (cl:=cs.length) (dl:=d.length) (ca:=ca) (kd:=kd) (nn:=n) (oG d) A j I (by omega) (by rw[jX];exact hs) (AW d) (by rw[jX];simp only at K;omega) R O J
theorem yJ(key:Nat->Nat)(skew:Int)(s:VS)(b:Wl):(C8 key skew s b).1.2.length=32:=by
 unfold C8;simp only;split
 ·rw[aV,lA]
 ·rfl
end
section
open Go.RowKit
attribute [local irreducible] wpQuiet wpAnyH
def DA(V:eK):Prop:=∀ s b,aE (V s b).1.1/\(V s b).1.2.length=32/\∀ x∈(V s b).1.2,0<=x/\x<=255
theorem oN:z32L.length=32:=rfl
theorem mG:∀ x∈z32L,0<=x/\x<=255:=λx j=>by
 have:=List.eq_of_mem_replicate j;omega
theorem bN{c:Int}(h:0<=c/\c<=100):aE c:=by unfold aE;omega
theorem JX(skew:Int)(s:VS):aE (cR (iU skew s).1):=by
 have:=IY (dY s.d);unfold iU;split <;> exact this
theorem JY(s:VS):aE (cR (mD s).1):=by
 unfold mD;split
 ·exact bN (c:=12) (by omega)
 ·rename_i C _;exact E8 _ _ _ _
theorem GI(x:Ans):aE (yV x):=by
 unfold yV;split
 ·exact bN (by omega)
 ·exact bN (by omega)
theorem GJ(d:DiskD)(h:Nat)(C:CacheD)(q:cL):aE (xU d h C q).1:=by
 unfold xU;split
 ·exact bN (by omega)
 ·split
  ·exact bN (by omega)
  ·exact GI _
theorem TL(d:DiskD)(h:Nat)(C:CacheD)(q:cL)(now:Int):aE (pE d h C q now).1:=by
 unfold pE;split
 ·exact bN (by omega)
 split
 ·exact bN (by omega)
 split
 ·exact bN (by omega)
 split
 ·exact bN (by omega)
 split
 ·split
  ·exact GI _
  ·exact GJ _ _ _ _
 ·exact GJ _ _ _ _
theorem WZ(key:Nat->Nat)(s:Wl):aE (tkO key s).2:=by
 unfold tkO;split
 ·exact bN (by omega)
 ·split <;> exact bN (by omega)
theorem W0(key:Nat->Nat)(s:Wl):aE (auO key s).2:=by
 unfold auO;split
 ·exact bN (by omega)
 ·split <;> exact bN (by omega)
theorem W4(key:Nat->Nat)(b:Wl):aE (rqO key b).2:=by
 unfold rqO;split
 ·exact bN (by omega)
 split
 ·exact WZ _ _
 split
 ·exact W0 _ _
 ·exact bN (by omega)
theorem TM(t:TkD)(a:AuD)(now skew:Int):aE (qB t a now skew):=by
 unfold qB
 repeat' split
 all_goals exact bN (by omega)
theorem OW(s:VS):aE (lN s):=by
 unfold lN
 repeat' split
 all_goals exact bN (by omega)
theorem TN(key:Nat->Nat)(skew:Int)(s:VS)(b:Wl):aE (C4 key skew s b).1:=by
 unfold C4;split
 ·exact W4 _ _
 split
 ·exact TM _ _ _ _
 split
 ·exact OW _
 split
 ·exact bN (by omega)
 ·exact TL _ _ _ _ _
theorem JZ(key:Nat->Nat)(skew:Int):DA (C8 key skew):=λs b=>by
 refine⟨TN _ _ _ _,yJ _ _ _ _,?_⟩;unfold C8;simp only;split
 ·intro x j;obtain⟨y,hy,rfl⟩:=List.mem_map.1 j;have:=kO _ y hy;omega
 ·exact mG
theorem J0{V:eK}(D:DA V)(skew:Int)(s:VS)(o:OpD):aE (k9 V skew s o).1.1/\(k9 V skew s o).1.2.length=32/\∀ x∈(k9 V skew s o).1.2,0<=x/\x<=255:=by
 have j:aE 0:=bN (by omega);unfold k9;split
 ·exact⟨j,oN,mG⟩
 split
 ·exact⟨JX _ _,oN,mG⟩
 split
 ·exact D _ _
 split
 ·exact⟨JY _,oN,mG⟩
 split
 ·exact⟨j,oN,mG⟩
 ·exact⟨j,oN,mG⟩
theorem GK{V:eK}(I:DA V)(skew:Int)(n:Nat)(K:n<=1000):∀(l:List OpD) (s:VS),(∀ o∈l,aD o=true)->(∀ x∈fI V skew s l,JR n x)->∀ x∈fI V skew s l,RowOk x
 | [],s,_,_,x,hx=>by cases hx
 | o :: l,s,hr,hl,x,hx=>by
  have D:x∈oH V skew s o :: fI V skew (gU V skew s o) l:=hx;rcases List.mem_cons.1 D with rfl|h1
  ·have j:=J0 I skew s o;have R:=oL (hr o (List.mem_cons_self ..));have J:=hl (oH V skew s o) (show _∈oH V skew s o :: _ from List.mem_cons_self ..);unfold JR at J;exact⟨bN (by show 0<=o.kind/\o.kind<=100;omega),j.1,by unfold aE;omega,by unfold aE;omega,j.2.1,j.2.2⟩
  ·exact GK I skew n K l (gU V skew s o) (λO h=>hr O (List.mem_cons_of_mem _ h)) (λy hy=>hl y (show y∈oH V skew s o :: fI V skew (gU V skew s o) l from List.mem_cons_of_mem _ hy)) x h1
theorem yK{l:List OpD}(h:oJ l=none):∀ o∈l,aD o=true:=λo j=>by
 have:=List.findIdx?_eq_none_iff.1 h o j;simpa using this
theorem W8{V:eK}(I:DA V)(c:ConfD)(l:List OpD)(n:Nat)(J:n<=1000)(j:∀ x∈(dA V c l).2,JR n x):∀ x∈(dA V c l).2,RowOk x:=by
 unfold dA at j ⊢;split at j
 ·rename_i h;rw[jP h];intro x D;cases D
 ·rename_i h;rw[jQ h];cases hb:oJ l with
  | some i=>
   simp only;intro x D;cases D
  | none=>
   rw[hb] at j;exact GK I c.skew n J l _ (yK hb) j
end
end Go.Proofs.YtiaigidbcljblaaGreatDoor
