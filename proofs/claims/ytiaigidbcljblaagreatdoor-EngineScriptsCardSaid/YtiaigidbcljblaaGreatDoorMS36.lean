import Derived.Test.YtiaigidbcljblaaGreatDoorMS34
import Derived.Test.YtiaigidbcljblaaGreatDoorMS33
import Derived.Test.YtiaigidbcljblaaGreatDoorMS32
set_option linter.unusedVariables false
set_option linter.unusedSimpArgs false
set_option maxRecDepth 100000
set_option maxHeartbeats 40000000
namespace Go.Proofs.YtiaigidbcljblaaGreatDoor
open Go.Proofs.Tryz
section
open Go.RowKit
attribute [local irreducible] wpQuiet wpAnyH
structure AcX(ga gv:Nat)(tk au:Wv)(now skew:Int)(W:Wd):Prop where
 c0:W.cell? ⟨ga,0,none⟩=some (.pointer (some ⟨gv,0,none⟩))
 t:W.rangeAt ga 2 tk
 a:W.rangeAt ga 22 au
 n:W.cell? ⟨gv,18,none⟩=some (.int .i64 now)
 s:W.cell? ⟨gv,16,none⟩=some (.int .i64 skew)
theorem AcX.keep{ga gv:Nat}{I D:Wv}{now skew:Int}{W W':Wd}(h:AcX ga gv I D now skew W)(hb:Bw W W'):AcX ga gv I D now skew W':=
 ⟨j9 hb h.c0,λj u x=>j9 hb (h.t j u x),λj u x=>j9 hb (h.a j u x),j9 hb h.n,j9 hb h.s⟩
theorem acX{ga gv g:Nat}{bv cv:Value}{D I:Wv}{now skew:Int}{W:Wd}(h:Blk W ga 209 (m7 gv bv D I).toArray)(ht:D.length=20)(J:VC gv skew g now cv W):AcX ga gv D I now skew W:=by
 refine⟨(h.cell 0).trans rfl,λj u x=>?_,λj u x=>?_,J.c18,J.c16⟩
 ·rw[h.cell,jf];unfold m7;have K:=(List.getElem?_eq_some_iff.1 x).1;rw[List.append_assoc,jx (by simp),jy (by simp;omega)];rw[show 2+j - [Value.pointer (some ⟨gv,0,none⟩),bv].length=j from by simp];exact x
 ·rw[h.cell,jf];unfold m7;rw[jx (by rw[jj,ht];simp <;> omega)];rw[show 22+j-([Value.pointer (some ⟨gv,0,none⟩),bv]++D).length=j from by rw[jj,ht];simp];exact x
section
variable {w0 w w' : Wd} {gv g9 k N : Nat} {key : Nat -> Nat} {skew : Int} {s : VS} {X : Nat -> Prop} {ga : Nat} {bv : Value}
theorem TD(h:VE w0 w gv g9 k N key skew s X):Wc 78 #[.pointer (some ⟨gv,0,none⟩)] w λe w'=>e = .returned (.bool (aN s).co.isSome)/\VE w0 w' gv g9 k N key skew (aN s) X/\XT X w w':=by
 obtain⟨m,cv,F,hg,x,D⟩:=h;refine(yA x).mono ?_;rintro e w' ⟨rfl,cv',F',h1,j⟩;exact⟨rfl,VE.of D hg h1 j⟩
theorem VE.acX{j x:Wv}(h:VE w0 w gv g9 k N key skew s X)(D:Blk w ga 209 (m7 gv bv j x).toArray)(ht:j.length=20):AcX ga gv j x s.now skew w:=by
 obtain⟨m,cv,F,hg,I,J⟩:=h;exact Proofs.YtiaigidbcljblaaGreatDoor.acX D ht I.vc
theorem VE.nows(h:VE w0 w gv g9 k N key skew s X):aE s.now/\aE skew:=by
 obtain⟨m,cv,F,hg,j,x⟩:=h;have:=j.now;have:=j.skew;unfold aE;omega
theorem WY{B:Nat}{r:(TkD×AuD)×Int}{tk K:Wv}{c:Int}(h:VE w0 w gv g9 k N key skew s X)(hB:Blk w ga 209 (m7 gv bv tk K).toArray)(hP:TA B r tk K c w)(ht:TkOk r.1.1)(ha:AuOk r.1.2):
  Wc 105 #[.pointer (some ⟨ga,0,none⟩)] w (Rt w (.int .i64 (qB r.1.1 r.1.2 s.now skew))):=by
 have Z:=hP.ok;have hx:=h.acX hB Z.1;have D:=jz (λW (hb:Bw w W)=>hx.keep hb);have HL:=jz Z;obtain⟨_,v1,v2,e1,e2,O,R⟩:=hP;have V:=h.nows;have x:=jz (λW (hb:Bw w W)=>JQ (w:=W) ht ha V.1 V.2 ((Sn.own O).below hb) ((Sn.own R).below hb) (eU O) (eU R));rw[<- e1,<- e2] at x;obtain⟨z,hz⟩:=je (qB r.1.1 r.1.2 s.now skew);obtain⟨now,J⟩:=je s.now;rw[<- hz] at x ⊢;rw[<- J] at x D;clear h hB Z hx e1 e2 O R V hz J ht ha;go_enter func105,ntmps105
 go_upto_region 1 with fail
 refine kZ (n:=24) (λW=>Bw w W) ((ji _ _).drew) (h:=λU=>?_);refine qM 0 (.pointer (some ⟨ga,0,none⟩)) ?_;refine qT 1 (.pointer (some ⟨ga,0,none⟩)) ?_;refine qT 2 (.pointer (some ⟨ga,2,none⟩)) ?_;refine qL 3 (cs:=tk) (λW j=>(D W j).t) (HL.out.1) ?_;refine qM 4 (.pointer (some ⟨ga,0,none⟩)) ?_;refine qT 5 (.pointer (some ⟨ga,0,none⟩)) ?_;refine qT 6 (.pointer (some ⟨ga,22,none⟩)) ?_;refine qL 7 (cs:=K) (λW j=>(D W j).a) (HL.out.2.1) ?_;refine qM 8 (.pointer (some ⟨ga,0,none⟩)) ?_;refine qT 9 (.pointer (some ⟨ga,0,none⟩)) ?_;refine qT 10 (.pointer (some ⟨ga,0,none⟩)) ?_;refine qC 11 (v:=.pointer (some ⟨gv,0,none⟩)) (λW j=>(D W j).c0) ?_;refine qT 12 (.pointer (some ⟨gv,0,none⟩)) ?_;refine qT 13 (.pointer (some ⟨gv,18,none⟩)) ?_;refine qC 14 (v:=.int .i64 now) (λW j=>(D W j).n) ?_;refine qM 15 (.pointer (some ⟨ga,0,none⟩)) ?_;refine qT 16 (.pointer (some ⟨ga,0,none⟩)) ?_;refine qT 17 (.pointer (some ⟨ga,0,none⟩)) ?_;refine qC 18 (v:=.pointer (some ⟨gv,0,none⟩)) (λW j=>(D W j).c0) ?_;refine qT 19 (.pointer (some ⟨gv,0,none⟩)) ?_;refine qT 20 (.pointer (some ⟨gv,16,none⟩)) ?_;refine qC 21 (v:=.int .i64 skew) (λW j=>(D W j).s) ?_;refine kF 22 (some 25) ((x _ U).mono ?_);rintro e w5 ⟨rfl,I⟩;refine⟨_,rfl,aA U I,λU=>?_⟩;simp only[jq];refine qT 23 (.int .i64 z) ?_;refine kE (h:=?_);go_wp2_with fail
 go_ret;exact⟨rfl,aA (by assumption) I⟩
def lN(s:VS):Int:=match (aN s).co with
 | none=>7
 | some C=>if s.now<=C.til then 7 else 0
theorem Y9{tk au:Wv}(h:VE w0 w gv g9 k N key skew s X)(hB:Blk w ga 209 (m7 gv bv tk au).toArray)(ht:tk.length=20)(hX:X ga):
  Wc 106 #[.pointer (some ⟨ga,0,none⟩)] w λe w'=>e = .returned (.int .i64 (lN s))/\VE w0 w' gv g9 k N key skew (aN s) X/\XT X w w':=by
 have hd:=(ji w.heap.size w).drew;have hx:=(h.acX hB ht).keep hd;have I:=jz (TD (h.keep hd));have D:Hid (∀ W,VE w0 W gv g9 k N key skew (aN s) X->XT X w.drew W->AcX ga gv tk au s.now skew W):=jz (λW hv a6=>by
  have h1:=hv.acX (show Blk W ga _ _ from(a6.block ga hX).trans (hB.keep hd)) ht
  rwa [kG] at h1)
 have HD:Hid (XT X w w.drew):=jz (XT.of_below h.lt hd);have HQ:Hid (lN s=match (generalizing:=false) (aN s).co with
  | none=>7
  | some C=>if s.now<=C.til then 7 else 0):=jz rfl
 obtain⟨Z,hZ⟩:=je (lN s);rw[<- hZ] at HQ ⊢;obtain⟨co,V⟩:=je ((aN s).co);rw[<- V] at HQ I;have a3:=jz V;obtain⟨now,a2⟩:=je s.now;rw[<- a2] at hx D HQ;have HX:=jz hx;obtain⟨wD,O⟩:=je w.drew;rw[<- O] at HX I D HD;clear h hB ht hX hd hx hZ V a2;go_enter func106,ntmps106
 go_upto_region 1 with fail
 refine kZ (n:=24) (AcX ga gv tk au now skew) (by rw[<- O];exact HX) (h:=λhH=>?_);rw[<- O] at hH ⊢;clear O;refine qM 0 (.pointer (some ⟨ga,0,none⟩)) ?_;refine qT 1 (.pointer (some ⟨ga,0,none⟩)) ?_;refine qT 2 (.pointer (some ⟨ga,0,none⟩)) ?_;refine qC 3 (v:=.pointer (some ⟨gv,0,none⟩)) (λW U=>U.c0) ?_;cases co with
 | none=>
  refine kF 4 (some 7) ((I).mono ?_);rintro e w5 ⟨rfl,j,x⟩;refine⟨_,rfl,D _ j x,λhH=>?_⟩;simp only[jq]
  -- not booted
  refine qT 5 (.bool true) ?_;refine qM 6 (.bool true) ?_;refine qX 7 ?_;refine qX 8 ?_;refine qX 9 ?_;refine qX 10 ?_;refine qX 11 ?_;refine qX 12 ?_;refine qX 13 ?_;refine qX 14 ?_;refine qX 15 ?_;refine qX 16 ?_;refine qX 17 ?_;refine qX 18 ?_;refine qX 19 ?_;refine qX 20 ?_;refine qX 21 ?_;refine qX 22 ?_;refine qT 23 (.bool true) ?_;refine kE (h:=?_);have a5:=j;clear hH;have J:=jz j;have K:=jz (HD.trans x);clear j x a5;go_wp2_with fail
  go_ret;exact⟨by rw[HQ.out];rfl,J,K⟩
 | some C=>
  refine kF 4 (some 7) ((I).mono ?_);rintro e w5 ⟨rfl,j,x⟩;refine⟨_,rfl,D _ j x,λhH=>?_⟩;simp only[jq];refine qT 5 (.bool false) ?_;refine qM 6 (.bool false) ?_;refine qM 7 (.pointer (some ⟨ga,0,none⟩)) ?_;refine qT 8 (.pointer (some ⟨ga,0,none⟩)) ?_;refine qT 9 (.pointer (some ⟨ga,0,none⟩)) ?_;refine qC 10 (v:=.pointer (some ⟨gv,0,none⟩)) (λW U=>U.c0) ?_;refine qT 11 (.pointer (some ⟨gv,0,none⟩)) ?_;refine qT 12 (.pointer (some ⟨gv,18,none⟩)) ?_;refine qC 13 (v:=.int .i64 now) (λW U=>U.n) ?_;refine qM 14 (.pointer (some ⟨ga,0,none⟩)) ?_;refine qT 15 (.pointer (some ⟨ga,0,none⟩)) ?_;refine qT 16 (.pointer (some ⟨ga,0,none⟩)) ?_;refine qC 17 (v:=.pointer (some ⟨gv,0,none⟩)) (λW U=>U.c0) ?_;refine qT 18 (.pointer (some ⟨gv,0,none⟩)) ?_;refine qT 19 (.pointer (some ⟨gv,19,none⟩)) ?_;obtain⟨m5,a8,F5,a9,a0,a7⟩:=id j;have R:=a0.co;rw[<- a3.out] at R;rcases R with ⟨_,_,hc⟩|⟨gc,gl,gi,bi,C2,rfl,hF,hc,a1,b0⟩
  ·cases hc
  injection hc with hc
  subst hc;have c19:=a0.cells.2.2.2;have a4:=jz (CH a1);refine kS 20 (some 23) (.pointer (some ⟨gc,0,none⟩)) w5 (hS:=D.out _ j x) (h:=?_);simp only[jq];refine kF 21 (some 24) ((a4).mono ?_);rintro e w6 ⟨rfl,rfl⟩;refine⟨_,rfl,D _ j x,λhH=>?_⟩;simp only[jq];refine qT 22 (.bool (decide (now<=C.til))) ?_;refine qT 23 (.bool (decide (now<=C.til))) ?_;refine kE (h:=?_);have J:=jz j;have K:=jz (HD.trans x);clear j x a0 a7 a1 c19 hH;by_cases hle:now<=C.til
  ·have HZ:Hid (Z=7):=jz (by rw[HQ.out];exact jP hle);go_wp2_with fail
   go_ret;exact⟨by rw[HZ.out];rfl,J,K⟩
  ·have HZ:Hid (Z=0):=jz (by rw[HQ.out];exact jQ hle);go_wp2_with fail
   go_ret;exact⟨by rw[HZ.out];rfl,J,K⟩
end
end
section
open Go.RowKit
attribute [local irreducible] wpQuiet wpAnyH
def auE(a:AuD)(skew:Int):cL:=(cY (auG a),iR a.time skew)
theorem lA(a:AuD):(auG a).length=32:=dF _
theorem TE(a:AuD)(skew:Int):EntOk (auE a skew):=
 ⟨⟨by show(cY (auG a)).length=32;rw[aV,lA],λb hb=>by
  obtain⟨x,j,rfl⟩:=List.mem_map.1 hb
  have:=kO _ x j
  omega⟩,xF _ _⟩
def uF(s:VS)(C:CacheD)(q:cL):Int×VS:=((pE s.d (s.d.sec.length/2) C q s.now).1,⟨(pE s.d (s.d.sec.length/2) C q s.now).2.1,s.now,some (pE s.d (s.d.sec.length/2) C q s.now).2.2⟩)
section
variable {w0 w w' : Wd} {gv g9 k N : Nat} {key : Nat -> Nat} {skew : Int} {s : VS} {X : Nat -> Prop} {ga : Nat} {bv : Value}
theorem VE.cacheC(h:VE w0 w gv g9 k N key skew s X){C:CacheD}(hc:s.co=some C)(hk:k<=60)(q:cL)(hq:EntOk q):∃ gc,w.cell? ⟨gv,19,none⟩=some (.pointer (some ⟨gc,0,none⟩))/\∀ W,Bw w W->Wc 156 #[.pointer (some ⟨gc,0,none⟩),.agg (aO q).toArray,.int .i64 s.now] W λe w'=>e = .returned (.int .i64 (uF s C q).1)/\VE w0 w' gv g9 (k+1) N key skew (uF s C q).2 X/\XT X W w'/\w'.cell? ⟨gv,19,none⟩=some (.pointer (some ⟨gc,0,none⟩))/\w'.cell? ⟨gv,18,none⟩=some (.int .i64 s.now):=by
 obtain⟨m,cv,F,hg,O,hx⟩:=h;rcases O.co with ⟨_,_,hn⟩|⟨gc,gl,gi,bi,C',rfl,hF,hc2,D,Z⟩
 ·rw[hc] at hn;cases hn
 rw[hc] at hc2;injection hc2 with hc2
 subst hc2;refine⟨gc,O.cells.2.2.2,λW R=>?_⟩;have a1:=O.rm;have hE:=D.ix.len;have x:=D.keep R;refine(R2 q s.now W m s.d gc gl gi bi (s.d.sec.length/2) (30+k) C x hq (by omega) (by omega)).mono ?_;rintro e w' ⟨rfl,m',j,U⟩;have V:=WB x (by omega) (by omega) s.now;have I:=V9 D.lk.dk.ok.st (s.d.sec.length/2) C q s.now V.st;have a0:=O.keep R;have J:∀ b∈[gl,bi],b∈F:=λb hb=>by
  rw[hF];simp only[jl,j8,or_false] at hb ⊢;rcases hb with h|h
  ·exact .inl h
  ·exact .inr (.inl h)
 have K:=a0.cache (d':=(pE s.d (s.d.sec.length/2) C q s.now).2.1) (co:=some (pE s.d (s.d.sec.length/2) C q s.now).2.2) (k':=k+1) J j.lk.dk (.inr ⟨gc,gl,gi,bi,_,rfl,hF,rfl,by rw[I.2];exact j,Z⟩) U I.2 (by omega);have h4:=VE.of (λb hb=>⟨(hx b hb).1,jp (hx b hb).2 R.size⟩) hg K.1 K.2;exact⟨rfl,h4.1,h4.2,K.1.cells.2.2.2,K.1.cells.2.2.1⟩
structure InX(ga gv ge gc:Nat)(now:Int)(E:Wv)(W:Wd):Prop where
 c0:W.cell? ⟨ga,0,none⟩=some (.pointer (some ⟨gv,0,none⟩))
 n:W.cell? ⟨gv,18,none⟩=some (.int .i64 now)
 c:W.cell? ⟨gv,19,none⟩=some (.pointer (some ⟨gc,0,none⟩))
 e:W.rangeAt ge 0 E
theorem TF{B:Nat}{r:(TkD×AuD)×Int}{tk au:Wv}{c:Int}{C:CacheD}(h:VE w0 w gv g9 k N key skew s X)(hk:k<=60)(hc:s.co=some C)(hB:Blk w ga 209 (m7 gv bv tk au).toArray)(hP:TA B r tk au c w)(ha:AuOk r.1.2)(hT:TabK w)(f2:X ga):
  Wc 107 #[.pointer (some ⟨ga,0,none⟩)] w λe w'=>e = .returned (.int .i64 (uF s C (auE r.1.2 skew)).1)/\VE w0 w' gv g9 (k+1) N key skew (uF s C (auE r.1.2 skew)).2 X/\XT X w w':=by
 have hq:=hP.ok;have hx:=h.acX hB hq.1;have HX:=jz (λW (hb:Bw w W)=>hx.keep hb);have HL:=jz hq;have e0:Hid ((prog.info? 125).map (·.size)=some au.length):=jz (by rw[hq.2.1];exact auI);obtain⟨_,v1,v2,e1,e2,h4,h5⟩:=hP;have hn:=h.nows;have a8:=jz (λW (hb:Bw w W)=>tN r.1.2 v2 W ha ((Sn.own h5).below hb) (hT.below hb));have a0:=jz (λW=>JO r.1.2 v2 skew W hn.2 ha.time (eU h5));rw[<- e2] at a8 a0;have HV:=jz h;have c9:=jz (And.intro hk (And.intro hc f2));have g8:=jz hB;have f1:=jz h.lt;obtain⟨G,hG⟩:=je (n8 (auG r.1.2));have b1:G.length=32:=by rw[hG,aS];exact lA _
 have a1:Hid ((prog.info? 26).map (·.size)=some G.toArray.size/\dZ.size=G.toArray.size/\G.toArray.all (·.oneCell')=true/\G.length=32):=jz ⟨by rw[js,b1];kernel_rfl,by
  have h3:G.toArray.size=32:=by rw[js,b1]
  rw[h3];rfl,by rw[hG];exact all_oneCell_toArray (dU _),b1⟩
 obtain⟨E,hE⟩:=je (aO (auE r.1.2 skew));obtain⟨x,c6⟩:=je (iR r.1.2.time skew);have c7:Hid (prog.built 172 [(0,.agg G.toArray),(1,.int .i64 x)]=some E.toArray):=jz (by
  have h1:=OJ (cY (auG r.1.2)) (iR r.1.2.time skew) (by rw[aV,lA])
  rw[<- fK,<- hG,<- c6] at h1
  rw[h1,hE]
  unfold auE
  rw[<- c6])
 have O:Hid (E.length=33/\∀ u∈E,u.oneCell'=true):=jz ⟨by rw[hE];exact bC _ (TE _ _),λu hu=>by
  rw[hE] at hu
  exact Array.all_eq_true_iff_forall_mem.1 (iM _ _) u (by simpa [aO] using hu)⟩
 have g2:=jz hE;rw[<- hG] at a8;rw[<- c6] at a0;obtain⟨z,hz⟩:=je (uF s C (auE r.1.2 skew));rw[<- hz];have k3:=jz hz;obtain⟨now,d5⟩:=je s.now;rw[<- d5] at HX;have h7:=jz d5;obtain⟨k4,a3⟩:=je z.1;rw[<- a3];have g1:=jz a3;clear h hk hc hB hq hx e1 e2 h4 h5 hn ha hT f2 hG b1 hE c6 hz d5 a3;go_enter func107,ntmps107
 go_upto_region 1 with fail
 go_wp2_with (refine ld 125 (.tmp 9) rfl rfl (by rfl) (HX w (ji _ _)).a underlying125 rfl e0 ?_)
 refine(a8 w (ji _ _)).mono ?_;rintro e w2 ⟨rfl,f3⟩;go_upto_region 2 with (first
  | (refine al 26 dZ rfl rfl fM ?_)
  | (refine bZ 26 (.tmp 3) (.tmp 12) rfl rfl (by rfl) (by rfl) a1.out.1 a1.out.2.1 a1.out.2.2.1 ?_;intro w3 d1 f5 m3))
 try simp only[jq]
 obtain⟨g3,f7⟩:=je w2.heap.size;rw[<- f7] at d1 ⊢;have e8:Hid (Blk w3 g3 26 G.toArray):=jz d1;have a7:=jz (aA f3 f5);clear d1 f5 m3 f7 f3 a8;go_upto_region 4 with fail
 go_cut [5] from 16 to 29 (λv5 wx=>∃ j,v5 = .pointer (some ⟨j,0,none⟩)/\Blk wx j 172 E.toArray/\w3.heap.size<=j/\Bw w3 wx)
 case first=>
  have h8:Hid (∀ W,Bw w3 W->W.rangeAt g3 0 G):=jz (λW D=>by have h:=(e8.keep D).range;rwa [jt] at h);have d0:Hid (∀ W,Bw w3 W->AcX ga gv tk au now skew W):=jz (λW D=>HX.out W (aA a7 D));refine kZ (n:=16) (λW=>Bw w3 W) ((ji _ _).drew) (h:=λhH=>?_);refine qL 0 (cs:=G) (λW D=>h8.out W D) (a1.out.2.2.2) ?_;refine qM 1 (.pointer (some ⟨ga,0,none⟩)) ?_;refine qT 2 (.pointer (some ⟨ga,0,none⟩)) ?_;refine qT 3 (.pointer (some ⟨ga,22,none⟩)) ?_;refine qL 4 (cs:=au) (λW D=>(d0 W D).a) (HL.out.2.1) ?_;refine qM 5 (.pointer (some ⟨ga,0,none⟩)) ?_;refine qT 6 (.pointer (some ⟨ga,0,none⟩)) ?_;refine qT 7 (.pointer (some ⟨ga,0,none⟩)) ?_;refine qC 8 (v:=.pointer (some ⟨gv,0,none⟩)) (λW D=>(d0 W D).c0) ?_;refine qT 9 (.pointer (some ⟨gv,0,none⟩)) ?_;refine qT 10 (.pointer (some ⟨gv,16,none⟩)) ?_;refine qC 11 (v:=.int .i64 skew) (λW D=>(d0 W D).s) ?_;refine jW [12,14] (rF 12 (some 28) ((a0 _).mono ?_) (rA 14 (some 5) zE s6 (aA hH (aH _ _)) ?_ jN))
  ·rintro e w4 ⟨rfl,d2⟩;have U:=aA hH d2;refine⟨_,rfl,U,λ_=>?_⟩;simp only[jq];refine kB 13 (some 29) (vs:=[(0,.agg G.toArray),(1,.int .i64 x)]) c7 (h:=?_);simp only[jq];refine jW [14] (rA 14 (some 5) zE s6 (aA U (aH _ _)) ?_ jN);simp only[jq];obtain⟨j,J⟩:=je w4.heap.size;obtain⟨w5,c4⟩:=je (w4.alloc (.cells zE 172));have hE_:Blk w5 j 172 zE:=by rw[c4,J];exact Blk.new _ _ _
   have c2:Bw w4 w5:=by rw[c4];exact aH _ _
   have b7:=aA U c2;have K:w3.heap.size<=j:=by rw[J];exact U.size
   rw[<- c4,<- J];clear c4 J;have a6:=bA b7 K E;refine kR 15 none (n:=33) (cs:=E) (iD hE_ (by exact ja _)) O.out.1 O.out.2 a6 (h:=?_);simp only[jq];refine kE (h:=?_);have a4:∃ R,Value.pointer (some ⟨j,0,none⟩) = .pointer (some ⟨R,0,none⟩)/\Blk (w5.setCells j 0 E) R 172 E.toArray/\w3.heap.size<=R/\Bw w3 (w5.setCells j 0 E):=⟨j,rfl,o9 E hE_ (by rw[O.out.1];rfl),K,a6⟩;go_wp2_with fail
   go_meet
   exact a4
  ·simp only[jq];obtain⟨j,J⟩:=je w3.drew.heap.size;obtain⟨w4,c3⟩:=je (w3.drew.alloc (.cells zE 172));have hE_:Blk w4 j 172 zE:=by rw[c3,J];exact Blk.new _ _ _
   have d2:Below w3.drew.heap.size w3.drew w4:=by rw[c3];exact aH _ _
   have U:=aA hH d2;have K:w3.heap.size<=j:=by rw[J];exact hH.size
   rw[<- c3,<- J];clear c3 J;refine kF 12 (some 28) ((a0 _).mono ?_);rintro e w5 ⟨rfl,c2⟩;have b7:=aA U c2;have hE_:=hE_.keep c2;refine⟨_,rfl,b7,λ_=>?_⟩;simp only[jq];refine kB 13 (some 29) (vs:=[(0,.agg G.toArray),(1,.int .i64 x)]) c7 (h:=?_);simp only[jq];have a6:=bA b7 K E;refine kR 15 none (n:=33) (cs:=E) (iD hE_ (by exact ja _)) O.out.1 O.out.2 a6 (h:=?_);simp only[jq];refine kE (h:=?_);have a4:∃ R,Value.pointer (some ⟨j,0,none⟩) = .pointer (some ⟨R,0,none⟩)/\Blk (w5.setCells j 0 E) R 172 E.toArray/\w3.heap.size<=R/\Bw w3 (w5.setCells j 0 E):=⟨j,rfl,o9 E hE_ (by rw[O.out.1];rfl),K,a6⟩;go_wp2_with fail
   go_meet
   exact a4
 case rest=>
  rename Wd=>V
  obtain⟨j,rfl,a2,f9,f6⟩:=hcut;have m4:=jz a2;have Z:=jz (aA a7 f6);have h9:=jz (HV.xw Z);obtain⟨gc,f8,a5⟩:=h9.cacheC c9.out.2.1 c9.out.1 (auE r.1.2 skew) (TE _ _);rw[<- g2.out,<- k3.out,<- h7.out,<- g1.out] at a5;have f0:Hid (XW X w V j/\XW X w V ga):=jz ⟨.inr ⟨jm a7.size f9,a2.lt⟩,.inl c9.out.2.2⟩;have c5:=(HX.out V Z);have I:Bw V V.drew:=(ji _ _).drew;have h0:Hid (InX ga gv j gc now E V.drew):=jz ⟨j9 I c5.c0,j9 I c5.n,j9 I f8,by have h:=(a2.keep I).range;rwa [jt] at h⟩;have h2:Hid (∀ W,XT (XW X w V) V.drew W->W.cell? ⟨gv,19,none⟩=some (.pointer (some ⟨gc,0,none⟩))->W.cell? ⟨gv,18,none⟩=some (.int .i64 now)->InX ga gv j gc now E W):=jz (λW hx b0 a9=>by
   have m2:Blk W j 172 E.toArray:=(hx.block j f0.out.1).trans (a2.keep I)
   have m1:W.heap[ga]? = V.heap[ga]?:=(hx.block ga f0.out.2).trans (I.block ga (jp g8.lt Z.size))
   refine⟨(World.cell?_of_block m1).trans c5.c0,a9,b0,?_⟩
   have h:=m2.range
   rwa [jt] at h)
  have h6:=jz (a5 V.drew I);have k1:Hid (∀ W,XT (XW X w V) V.drew W->XT X w W):=jz (λW hx=>(XT.of_below f1 Z).trans ((XT.of_below (λb hb=>jp (f1 b hb) Z.size) I).trans ⟨hx.size,λb hb=>hx.block b (.inl hb)⟩));clear a2 f9 f6 e8 a7 a0 c7 a1 e0 f8 a5 c5 I;go_upto_region 5 with fail
  refine kZ (n:=17) (InX ga gv j gc now E) (h0) (h:=λhH=>?_);refine qM 0 (.pointer (some ⟨ga,0,none⟩)) ?_;refine qT 1 (.pointer (some ⟨ga,0,none⟩)) ?_;refine qT 2 (.pointer (some ⟨ga,0,none⟩)) ?_;refine qC 3 (v:=.pointer (some ⟨gv,0,none⟩)) (λW D=>D.c0) ?_;refine qT 4 (.pointer (some ⟨gv,0,none⟩)) ?_;refine qT 5 (.pointer (some ⟨gv,19,none⟩)) ?_;refine qC 6 (v:=.pointer (some ⟨gc,0,none⟩)) (λW D=>D.c) ?_;refine qL 7 (cs:=E) (λW D=>D.e) (O.out.1) ?_;refine qM 8 (.pointer (some ⟨ga,0,none⟩)) ?_;refine qT 9 (.pointer (some ⟨ga,0,none⟩)) ?_;refine qT 10 (.pointer (some ⟨ga,0,none⟩)) ?_;refine qC 11 (v:=.pointer (some ⟨gv,0,none⟩)) (λW D=>D.c0) ?_;refine qT 12 (.pointer (some ⟨gv,0,none⟩)) ?_;refine qT 13 (.pointer (some ⟨gv,18,none⟩)) ?_;refine qC 14 (v:=.int .i64 now) (λW D=>D.n) ?_;refine kF 15 (some 45) ((h6).mono ?_);rintro e w9 ⟨rfl,g0,d7,b0,a9⟩;refine⟨_,rfl,h2 _ d7 b0 a9,λhH=>?_⟩;simp only[jq];refine qT 16 (.int .i64 k4) ?_;refine kE (h:=?_);have k0:=jz (g0.less (λb hb=>.inl hb));have k2:=jz (k1 _ d7);clear g0 d7 b0 a9;go_wp2_with fail
  go_ret;exact⟨rfl,k0,k2⟩
end
end
section
open Go.RowKit
attribute [local irreducible] wpQuiet wpAnyH
def C4(key:Nat->Nat)(skew:Int)(s:VS)(b:Wl):Int×VS:=
 if (rqO key b).2≠0 then ((rqO key b).2,aN s)
 else if qB (rqO key b).1.1 (rqO key b).1.2 s.now skew≠0 then (qB (rqO key b).1.1 (rqO key b).1.2 s.now skew,aN s)
 else if lN s≠0 then (lN s,aN s)
 else match (aN s).co with
  | none=>(0,aN s)
  | some C=>((uF (aN s) C (auE (rqO key b).1.2 skew)).1,aN (uF (aN s) C (auE (rqO key b).1.2 skew)).2)
theorem TG{key:Nat->Nat}{b:Wl}(hb:Bys b)(I:b.length<=1000000)(h:(rqO key b).2=0):TkOk (rqO key b).1.1/\AuOk (rqO key b).1.2:=by
 have D:=LP hb I;unfold rqO at h ⊢;split at h
 ·cases h
 rename_i h1;rw[jQ h1];split at h
 ·rename_i j;exact absurd h j
 rename_i j;rw[jQ j];split at h
 ·rename_i x;exact absurd h x
 rename_i x;rw[jQ x];exact⟨SR D.1.1 D.1.2 (by simpa using j),Y1 D.2.1 D.2.2 (by simpa using x)⟩
theorem TA.same{B:Nat}{r:(TkD×AuD)×Int}{I D:Wv}{c:Int}{W W':Wd}(h:TA B r I D c W)(hs:∀ b,B<=b->b<W.heap.size->W'.heap[b]? = W.heap[b]?):TA B r I D c W':=by
 obtain⟨h1,v1,v2,J,K,j,x⟩:=h;exact⟨h1,v1,v2,J,K,aQ j (λb hb=>hs b (j.lt b hb).1 (j.lt b hb).2),aQ x (λb hb=>hs b (x.lt b hb).1 (x.lt b hb).2)⟩
section
variable {w0 w w' : Wd} {gv g9 k N : Nat} {key : Nat -> Nat} {skew : Int} {s : VS} {X : Nat -> Prop}
theorem VE.offN{g:Nat}(h:VE w0 w gv g9 k N key skew s X)(D:Off g w w')(hg:X g)(O:w0.heap.size<=g):VE w0 w' gv g9 k N key skew s (XW X w w'):=by
 obtain⟨m,cv,F,h1,j,K⟩:=h;have I:=(K g hg).1;have J:gv≠g:=λe=>I.2 (e ▸ List.mem_cons_self ..)
 exact⟨m,cv,F,h1,⟨⟨j.st.dk.offO D I.1,j.st.ft,j.st.bel.trans (D.below O j.st.bel.size)⟩,D.blk j.blk J,j.co.off D ⟨I.1,λR=>I.2 (List.mem_cons.2 (.inr R))⟩,j.far,j.lo,j.now,j.skew,j.len,j.few,j.rm⟩,λb hb=>by
  rcases hb with x|x
  ·exact⟨(K b x).1,jp (K b x).2 D.size⟩
  ·exact⟨j.far_new x.1,x.2⟩⟩
def LU(ga:Nat):Wa:=#[.func (.func 104) #[.pointer (some ⟨ga,0,none⟩)] #[],.func (.func 105) #[.pointer (some ⟨ga,0,none⟩)] #[],.func (.func 106) #[.pointer (some ⟨ga,0,none⟩)] #[],.func (.func 107) #[.pointer (some ⟨ga,0,none⟩)] #[]]
theorem TH(b:Wl)(A:Option Addr)(n cap:Nat)(d0:bG key)(hT:TabK w0)(hs:Sn w 1 (.slice A n cap) b.length (u8s b))(hb:Bys b)(hl:b.length<=1000000)(hk:k<=60)(h:VE w0 w gv g9 k N key skew s X):
  Wc 70 #[.pointer (some ⟨gv,0,none⟩),.slice A n cap] w λe w'=>e = .returned (.int .i64 (C4 key skew s b).1)/\VE w0 w' gv g9 (k+1) N key skew (C4 key skew s b).2 X/\XT X w w':=by
 have m1:∀(fn:Fn) (first cap:Wa) (w:Wd),(Instr.makeFunc fn first cap).run prog w = .ok (.func fn first cap) w:=λ_ _ _ _=>rfl
 have hn:n=b.length:=by
  obtain⟨A',c',e,_⟩:=id hs;injection e
 have H:=jz h;have a7:=jz h.lt;have k0:=jz h.lo;have g1:=jz (F0 gv A n cap);have c9:=jz (TG (key:=key) hb hl);have HS:=jz hs;have HQ:Hid (C4 key skew s b=if (rqO key b).2≠0 then ((rqO key b).2,aN s)
  else if qB (rqO key b).1.1 (rqO key b).1.2 s.now skew≠0 then (qB (rqO key b).1.1 (rqO key b).1.2 s.now skew,aN s)
  else if lN s≠0 then (lN s,aN s)
  else match (generalizing:=false) (aN s).co with
   | none=>(0,aN s)
   | some C=>((uF (aN s) C (auE (rqO key b).1.2 skew)).1,aN (uF (aN s) C (auE (rqO key b).1.2 skew)).2)):=jz rfl
 have a8:=jz (fun(W:Wd) (k4:TabK W) (m2:Sn W 1 (.slice A b.length cap) b.length (u8s b))=>AY key b A cap W d0 k4 m2 hb hl);rw[<- hn] at a8;obtain⟨Z,hZ⟩:=je (C4 key skew s b);rw[<- hZ] at HQ ⊢;obtain⟨r,hr⟩:=je (rqO key b);rw[<- hr] at HQ c9 a8;have HN:=jz hn;have HT:=jz hT;have HK:=jz hk;clear h hs hb hl hZ hr hn hT hk d0;go_enter func70,ntmps70
 go_wp2_with fail
 go_step3
 go_upto_region 5 with (refine eQ 209 _ rfl rfl rfl g1 ?_)
 go_step3
 obtain⟨ga,f6⟩:=je w.heap.size;obtain⟨w2,c5⟩:=je (w.alloc (.cells (JM gv (.slice A n cap)) 209));have e0:Hid (Bw w w2):=jz (by rw[c5];exact aH _ _);have d2:Hid (Blk w2 ga 209 (JM gv (.slice A n cap))):=jz (by rw[c5,f6];exact Blk.new _ _ _);have a6:Hid (w.heap.size<=ga):=jz (by omega);rw[<- c5,<- f6];clear c5 f6;go_wp2_with fail
 obtain⟨gf,f7⟩:=je w2.heap.size;obtain⟨w3,c6⟩:=je (w2.alloc (.cells (LU ga) 210));have e1:Hid (Bw w2 w3):=jz (by rw[c6];exact aH _ _);have a5:Hid (Blk w3 gf 210 (LU ga)):=jz (by rw[c6,f7];exact Blk.new _ _ _);have g8:Hid (gf≠ga/\w.heap.size<=gf):=jz (by have:=d2.lt;have:=e0.size;exact⟨by omega,by omega⟩);have d1:w2.alloc (.cells #[.func (.func 104) #[.pointer (some ⟨ga,0,none⟩)] #[],.func (.func 105) #[.pointer (some ⟨ga,0,none⟩)] #[],.func (.func 106) #[.pointer (some ⟨ga,0,none⟩)] #[],.func (.func 107) #[.pointer (some ⟨ga,0,none⟩)] #[]] 210)=w3:=c6.symm;rw[d1,<- f7];clear c6 d1 f7;have K:=jz (aA e0 e1);have f3:=jz (H.out.xw K);have a4:=jz (d2.keep e1);have h0:=jz (SJ (P:=TA w3.heap.size r) (key:=key) (tk0:=tkZ.toList) (au0:=auZ.toList) a4 (by rw[jk];exact bK) rfl f3.krange (by have:=H.out.gvlt;have:=a6.out;omega)
  (λW hW=>(a8 W ((HT.below f3.bel).below hW) (by have h:=(HS.below K).below hW;rwa [<- HN.out] at h)).mono (λe W' hr=>by
   obtain⟨tk,au,c,h1,h2,h3⟩:=hr
   exact⟨tk,au,c,h1,h2.base hW.size,h3⟩))
  (λtk au c W hp=>hp.ok) (λtk au c W W' hp ho=>hp.off ho a4.lt))
 have c0:w3.cell? ⟨gf,0,none⟩=some (.func (.func 104) #[.pointer (some ⟨ga,0,none⟩)] #[]):=a5.cell 0;refine wp_loop_rounds 5 ?_;rw[rounds_succ];go_wp2_with fail
 refine h0.mono ?_;rintro e w4 ⟨tk,au,c,rfl,hp,h6,ho⟩;have HXa:Hid (XW X w w3 ga):=jz (.inr ⟨a6,a4.lt⟩);have a9:=jz (f3.offN ho HXa (jm k0 a6));have b1:Hid (XT X w w4):=jz ⟨jm K.size ho.size,λb hb=>(ho.block b (jp (a7 b hb) K.size) (by have:=a7.out b hb;have:=a6.out;omega)).trans (K.block b (a7 b hb))⟩;have g3:=jz (ho.blk a5 g8.out.1);have d5:=jz h6;have f2:=jz hp;have f1:=jz (yG a9);have b7:c=r.2:=hp.1;have k2:=jz hp.ok.1;have HX4a:Hid (XW (XW X w w3) w3 w4 ga/\XW (XW X w w3) w3 w4 gf):=jz ⟨.inl HXa,.inl (.inr ⟨g8.out.2,a5.lt⟩)⟩;clear ho c0 hp h6 h0 a8 e0 d2 e1 a4 a5 g1 m1;by_cases hc0:r.2≠0
 ·have HZ:Hid (Z=(r.2,aN s)):=jz (by rw[HQ.out,jP hc0]);rw[<- b7] at HZ hc0;have h7:¬c=0:=hc0;clear b7 hc0;go_wp2_with fail
  refine f1.mono ?_;rintro e w5 ⟨rfl,D,j⟩;have I:Hid (VE w0 w5 gv g9 (k+1) N key skew (aN s) X):=jz ((D.less (λb hb=>.inl (.inl hb))).up (Nat.le_succ _));have J:Hid (XT X w w5):=jz (b1.trans ⟨j.size,λb hb=>j.block b (.inl (.inl hb))⟩);clear D j f1;go_wp2_with fail
  try rw[Exit.noGoto_ret]
  go_ret;rw[HZ.out];exact⟨rfl,I,J⟩
 have f8:r.2=0:=by simpa using hc0
 rw[f8] at b7;subst b7;have c4:=c9.out f8;rw[jQ hc0] at HQ;clear hc0 f8;have c1:w4.cell? ⟨gf,1,none⟩=some (.func (.func 105) #[.pointer (some ⟨ga,0,none⟩)] #[]):=g3.cell 1;have g2:=jz (WY a9 d5 f2 c4.1 c4.2);have k1:=jz c4;clear c4;go_wp2_with fail
 rw[rounds_succ];go_wp2_with fail
 refine g2.mono ?_;rintro e w5 ⟨rfl,a1⟩;have I:=jz (a9.keep a1);have d7:=jz (d5.keep a1);have e8:=jz (g3.keep a1);have J:Hid (XT X w w5):=jz (b1.trans (XT.of_below (λb hb=>jp (a7 b hb) b1.size) a1));have g0:=jz a1;clear a1 g2 c1 f1 a9 d5 b1;by_cases hc0:qB r.1.1 r.1.2 s.now skew≠0
 ·have HZ:Hid (Z=(qB r.1.1 r.1.2 s.now skew,aN s)):=jz (by rw[HQ.out,jP hc0]);obtain⟨pz,a3⟩:=je (qB r.1.1 r.1.2 s.now skew);rw[<- a3] at HZ hc0 ⊢;have h7:¬pz=0:=hc0;have x:=jz (yG I);clear hc0 a3;go_wp2_with fail
  refine x.mono ?_;rintro e U ⟨rfl,D,j⟩;have I:Hid (VE w0 U gv g9 (k+1) N key skew (aN s) X):=jz ((D.less (λb hb=>.inl (.inl hb))).up (Nat.le_succ _));have J:Hid (XT X w U):=jz (J.trans ⟨j.size,λb hb=>j.block b (.inl (.inl hb))⟩);clear D j x;go_wp2_with fail
  try rw[Exit.noGoto_ret]
  go_ret;rw[HZ.out];exact⟨rfl,I,J⟩
 have O:qB r.1.1 r.1.2 s.now skew=0:=by simpa using hc0
 rw[jQ hc0] at HQ;rw[O];clear hc0 O;have c2:w5.cell? ⟨gf,2,none⟩=some (.func (.func 106) #[.pointer (some ⟨ga,0,none⟩)] #[]):=e8.cell 2;have h5:=jz (Y9 I d7 k2 HX4a.out.1);go_wp2_with fail
 rw[rounds_succ];go_wp2_with fail
 refine h5.mono ?_;rintro e w6 ⟨rfl,h8,a2⟩;have b0:=jz h8;have f9:Hid (Blk w6 ga 209 (m7 gv (.slice A n cap) tk au).toArray):=jz ((a2.block ga HX4a.out.1).trans d7);have f0:Hid (Blk w6 gf 210 (LU ga)):=jz ((a2.block gf HX4a.out.2).trans e8);have h4:=jz (f2.same (W':=w6) (λb h1 h2=>(a2.block b (.inr ⟨h1,h2⟩)).trans (g0.block b h2)));have f5:Hid (XT X w w6):=jz (J.trans ⟨a2.size,λb hb=>a2.block b (.inl (.inl hb))⟩);clear h8 a2 h5 c2 I d7 e8 J f2 g0;by_cases hc0:lN s≠0
 ·have HZ:Hid (Z=(lN s,aN s)):=jz (by rw[HQ.out,jP hc0]);obtain⟨pz,a3⟩:=je (lN s);rw[<- a3] at HZ hc0 ⊢;have h7:¬pz=0:=hc0;have x:=jz (yG b0);clear hc0 a3;go_wp2_with fail
  refine x.mono ?_;rintro e U ⟨rfl,D,j⟩;have I:Hid (VE w0 U gv g9 (k+1) N key skew (aN s) X):=jz (by rw[qA] at D;exact(D.less (λb hb=>.inl (.inl hb))).up (Nat.le_succ _));have J:Hid (XT X w U):=jz (f5.trans ⟨j.size,λb hb=>j.block b (.inl (.inl hb))⟩);clear D j x;go_wp2_with fail
  try rw[Exit.noGoto_ret]
  go_ret;rw[HZ.out];exact⟨rfl,I,J⟩
 have O:lN s=0:=by simpa using hc0
 rw[jQ hc0] at HQ;have R:∃ C,(aN s).co=some C:=by
  cases R:(aN s).co with
  | none=>unfold lN at O;rw[R] at O;cases O
  | some C=>exact⟨C,rfl⟩
 obtain⟨C,R⟩:=R;have HZ:Hid (Z=((uF (aN s) C (auE r.1.2 skew)).1,aN (uF (aN s) C (auE r.1.2 skew)).2)):=jz (by rw[HQ.out,R]);rw[O];clear hc0 O HQ;have c3:w6.cell? ⟨gf,3,none⟩=some (.func (.func 107) #[.pointer (some ⟨ga,0,none⟩)] #[]):=f0.cell 3;have a0:=jz (TF b0 HK R f9 h4 k1.out.2 (HT.below b0.bel) HX4a.out.1);obtain⟨z,hz⟩:=je (uF (aN s) C (auE r.1.2 skew));rw[<- hz] at a0 HZ;obtain⟨ans,st⟩:=z;simp only at a0 HZ;clear hz R;go_wp2_with fail
 rw[rounds_succ];go_wp2_with fail
 refine a0.mono ?_;rintro e w7 ⟨rfl,h9,c7⟩;have k3:Hid (XT X w w7):=jz (f5.trans ⟨c7.size,λb hb=>c7.block b (.inl (.inl hb))⟩);have x:=jz (yG h9);have m3:Hid (Blk w7 gf 210 (LU ga)):=jz ((c7.block gf HX4a.out.2).trans f0);clear h9 c7 a0 c3 b0 f9 f0 f5 h4;have V:Hid (∀ U,VE w0 U gv g9 (k+1) N key skew (aN st) (XW (XW X w w3) w3 w4)->XT (XW (XW X w w3) w3 w4) w7 U->(Ending.returned (Value.int .i64 ans) = .returned (.int .i64 Z.1))/\VE w0 U gv g9 (k+1) N key skew Z.2 X/\XT X w U):=jz (λU hv hx=>by
  rw[HZ.out]
  exact⟨rfl,hv.less (λb hb=>.inl (.inl hb)),k3.trans ⟨hx.size,λb hb=>hx.block b (.inl (.inl hb))⟩⟩)
 by_cases hc0:ans=0
 ·subst hc0;go_wp2_with fail
  rw[rounds_succ];go_wp2_with fail
  refine x.mono ?_;rintro e U ⟨rfl,D,j⟩;have HE:=jz (V U D j);clear D j x V;go_wp2_with fail
  try rw[Exit.noGoto_ret]
  go_ret;exact HE.out
 ·go_wp2_with fail
  refine x.mono ?_;rintro e U ⟨rfl,D,j⟩;have HE:=jz (V U D j);clear D j x V;go_wp2_with fail
  try rw[Exit.noGoto_ret]
  go_ret;exact HE.out
end
end
end Go.Proofs.YtiaigidbcljblaaGreatDoor
