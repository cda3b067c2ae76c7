import Derived.Test.YtjjlaipkkdncfaaGreatDoorMV39
import Derived.Test.YtjjlaipkkdncfaaGreatDoorMV40
import Derived.Test.YtjjlaipkkdncfaaGreatDoorMV38
set_option linter.unusedVariables false
set_option linter.unusedSimpArgs false
set_option maxRecDepth 100000
set_option maxHeartbeats 40000000
namespace Go.Proofs.YtjjlaipkkdncfaaGreatDoor
open Go.Proofs.Tryz
section
open Go.RowKit
attribute [local irreducible] wpQuiet wpAnyH
structure AcX(ga gv:Nat)(tk au:Wv)(now skew:Int)(W:Wd):Prop where
 c0:W.cell? ⟨ga,0,none⟩=some (.pointer (some ⟨gv,0,none⟩))
 t:W.rangeAt ga 2 tk
 a:W.rangeAt ga 22 au
 n:W.cell? ⟨gv,18,none⟩=some (.int .i64 now)
 s:W.cell? ⟨gv,16,none⟩=some (.int .i64 skew)
theorem AcX.keep{ga gv:Nat}{J I:Wv}{now skew:Int}{W W':Wd}(h:AcX ga gv J I now skew W)(hb:Bw W W'):AcX ga gv J I now skew W':=
 ⟨j9 hb h.c0,λj u D=>j9 hb (h.t j u D),λj u D=>j9 hb (h.a j u D),j9 hb h.n,j9 hb h.s⟩
theorem acX{ga gv g:Nat}{bv cv:Value}{I J:Wv}{now skew:Int}{W:Wd}(h:Blk W ga 96 (mE gv bv I J).toArray)(ht:I.length=20)(K:VC gv skew g now cv W):AcX ga gv I J now skew W:=by
 refine⟨(h.cell 0).trans rfl,λj u D=>?_,λj u D=>?_,K.c18,K.c16⟩
 ·rw[h.cell,jf];unfold mE;have O:=(List.getElem?_eq_some_iff.1 D).1;rw[List.append_assoc,jx (by simp),jy (by simp;omega)];rw[show 2+j - [Value.pointer (some ⟨gv,0,none⟩),bv].length=j from by simp];exact D
 ·rw[h.cell,jf];unfold mE;rw[jx (by rw[jj,ht];simp <;> omega)];rw[show 22+j-([Value.pointer (some ⟨gv,0,none⟩),bv]++I).length=j from by rw[jj,ht];simp];exact D
section
variable {w0 w w' : Wd} {gv g9 k N : Nat} {key : Nat -> Nat} {skew : Int} {s : VS} {X : Nat -> Prop} {ga : Nat} {bv : Value}
theorem P4(h:VE w0 w gv g9 k N key skew s X):Wc 39 #[.pointer (some ⟨gv,0,none⟩)] w λe w'=>e = .returned (.bool (aR s).co.isSome)/\VE w0 w' gv g9 k N key skew (aR s) X/\XT X w w':=by
 obtain⟨m,cv,F,hg,I,J⟩:=h;refine(vZ I).mono ?_;rintro e w' ⟨rfl,cv',F',h1,D⟩;exact⟨rfl,VE.of J hg h1 D⟩
theorem VE.acX{D I:Wv}(h:VE w0 w gv g9 k N key skew s X)(J:Blk w ga 96 (mE gv bv D I).toArray)(ht:D.length=20):AcX ga gv D I s.now skew w:=by
 obtain⟨m,cv,F,hg,K,O⟩:=h;exact Proofs.YtjjlaipkkdncfaaGreatDoor.acX J ht K.vc
theorem VE.nows(h:VE w0 w gv g9 k N key skew s X):aI s.now/\aI skew:=by
 obtain⟨m,cv,F,hg,D,I⟩:=h;have:=D.now;have:=D.skew;unfold aI;omega
theorem S7{B:Nat}{r:(TkD×AuD)×Int}{tk R:Wv}{c:Int}(h:VE w0 w gv g9 k N key skew s X)(hB:Blk w ga 96 (mE gv bv tk R).toArray)(hP:TA B r tk R c w)(ht:TkOk r.1.1)(ha:AuOk r.1.2):
  Wc 35 #[.pointer (some ⟨ga,0,none⟩)] w (Rt w (.int .i64 (fY r.1.1 r.1.2 s.now skew))):=by
 have hq:=hP.ok;have hx:=h.acX hB hq.1;have J:=jz (λW (hb:Bw w W)=>hx.keep hb);have HL:=jz hq;obtain⟨_,v1,v2,e1,e2,U,V⟩:=hP;have hn:=h.nows;have I:=jz (λW (hb:Bw w W)=>GG (w:=W) ht ha hn.1 hn.2 ((Sn.own U).below hb) ((Sn.own V).below hb) (eP U) (eP V));rw[<- e1,<- e2] at I;obtain⟨z,hz⟩:=je (fY r.1.1 r.1.2 s.now skew);obtain⟨now,O⟩:=je s.now;rw[<- hz] at I ⊢;rw[<- O] at I J;clear h hB hq hx e1 e2 U V hn hz O ht ha;go_enter func35,ntmps35
 go_upto_region 1 with fail
 refine kZ (n:=24) (λW=>Bw w W) ((ji _ _).drew) (h:=λZ=>?_);refine qM 0 (.pointer (some ⟨ga,0,none⟩)) ?_;refine qT 1 (.pointer (some ⟨ga,0,none⟩)) ?_;refine qT 2 (.pointer (some ⟨ga,2,none⟩)) ?_;refine qL 3 (cs:=tk) (λW D=>(J W D).t) (HL.out.1) ?_;refine qM 4 (.pointer (some ⟨ga,0,none⟩)) ?_;refine qT 5 (.pointer (some ⟨ga,0,none⟩)) ?_;refine qT 6 (.pointer (some ⟨ga,22,none⟩)) ?_;refine qL 7 (cs:=R) (λW D=>(J W D).a) (HL.out.2.1) ?_;refine qM 8 (.pointer (some ⟨ga,0,none⟩)) ?_;refine qT 9 (.pointer (some ⟨ga,0,none⟩)) ?_;refine qT 10 (.pointer (some ⟨ga,0,none⟩)) ?_;refine qC 11 (v:=.pointer (some ⟨gv,0,none⟩)) (λW D=>(J W D).c0) ?_;refine qT 12 (.pointer (some ⟨gv,0,none⟩)) ?_;refine qT 13 (.pointer (some ⟨gv,18,none⟩)) ?_;refine qC 14 (v:=.int .i64 now) (λW D=>(J W D).n) ?_;refine qM 15 (.pointer (some ⟨ga,0,none⟩)) ?_;refine qT 16 (.pointer (some ⟨ga,0,none⟩)) ?_;refine qT 17 (.pointer (some ⟨ga,0,none⟩)) ?_;refine qC 18 (v:=.pointer (some ⟨gv,0,none⟩)) (λW D=>(J W D).c0) ?_;refine qT 19 (.pointer (some ⟨gv,0,none⟩)) ?_;refine qT 20 (.pointer (some ⟨gv,16,none⟩)) ?_;refine qC 21 (v:=.int .i64 skew) (λW D=>(J W D).s) ?_;refine kF 22 (some 25) ((I _ Z).mono ?_);rintro e w5 ⟨rfl,K⟩;refine⟨_,rfl,aB Z K,λZ=>?_⟩;simp only[jq];refine qT 23 (.int .i64 z) ?_;refine kE (h:=?_);go_wp2_with fail
 go_ret;exact⟨rfl,aB (by assumption) K⟩
def kJ(s:VS):Int:=match (aR s).co with
 | none=>7
 | some C=>if s.now<=C.til then 7 else 0
theorem VN{tk au:Wv}(h:VE w0 w gv g9 k N key skew s X)(hB:Blk w ga 96 (mE gv bv tk au).toArray)(ht:tk.length=20)(hX:X ga):
  Wc 36 #[.pointer (some ⟨ga,0,none⟩)] w λe w'=>e = .returned (.int .i64 (kJ s))/\VE w0 w' gv g9 k N key skew (aR s) X/\XT X w w':=by
 have hd:=(ji w.heap.size w).drew;have hx:=(h.acX hB ht).keep hd;have K:=jz (P4 (h.keep hd));have J:Hid (∀ W,VE w0 W gv g9 k N key skew (aR s) X->XT X w.drew W->AcX ga gv tk au s.now skew W):=jz (λW hv a7=>by
  have h1:=hv.acX (show Blk W ga _ _ from(a7.block ga hX).trans (hB.keep hd)) ht
  rwa [nN] at h1)
 have HD:Hid (XT X w w.drew):=jz (XT.of_below h.lt hd);have HQ:Hid (kJ s=match (generalizing:=false) (aR s).co with
  | none=>7
  | some C=>if s.now<=C.til then 7 else 0):=jz rfl
 obtain⟨Z,hZ⟩:=je (kJ s);rw[<- hZ] at HQ ⊢;obtain⟨co,a0⟩:=je ((aR s).co);rw[<- a0] at HQ K;have a4:=jz a0;obtain⟨now,a3⟩:=je s.now;rw[<- a3] at hx J HQ;have HX:=jz hx;obtain⟨wD,U⟩:=je w.drew;rw[<- U] at HX K J HD;clear h hB ht hX hd hx hZ a0 a3;go_enter func36,ntmps36
 go_upto_region 1 with fail
 refine kZ (n:=24) (AcX ga gv tk au now skew) (by rw[<- U];exact HX) (h:=λhH=>?_);rw[<- U] at hH ⊢;clear U;refine qM 0 (.pointer (some ⟨ga,0,none⟩)) ?_;refine qT 1 (.pointer (some ⟨ga,0,none⟩)) ?_;refine qT 2 (.pointer (some ⟨ga,0,none⟩)) ?_;refine qC 3 (v:=.pointer (some ⟨gv,0,none⟩)) (λW hW=>hW.c0) ?_;cases co with
 | none=>
  refine kF 4 (some 7) ((K).mono ?_);rintro e w5 ⟨rfl,D,I⟩;refine⟨_,rfl,J _ D I,λhH=>?_⟩;simp only[jq]
  -- not booted
  refine qT 5 (.bool true) ?_;refine qM 6 (.bool true) ?_;refine qX 7 ?_;refine qX 8 ?_;refine qX 9 ?_;refine qX 10 ?_;refine qX 11 ?_;refine qX 12 ?_;refine qX 13 ?_;refine qX 14 ?_;refine qX 15 ?_;refine qX 16 ?_;refine qX 17 ?_;refine qX 18 ?_;refine qX 19 ?_;refine qX 20 ?_;refine qX 21 ?_;refine qX 22 ?_;refine qT 23 (.bool true) ?_;refine kE (h:=?_);have a6:=D;clear hH;have O:=jz D;have R:=jz (HD.trans I);clear D I a6;go_wp2_with fail
  go_ret;exact⟨by rw[HQ.out];rfl,O,R⟩
 | some C=>
  refine kF 4 (some 7) ((K).mono ?_);rintro e w5 ⟨rfl,D,I⟩;refine⟨_,rfl,J _ D I,λhH=>?_⟩;simp only[jq];refine qT 5 (.bool false) ?_;refine qM 6 (.bool false) ?_;refine qM 7 (.pointer (some ⟨ga,0,none⟩)) ?_;refine qT 8 (.pointer (some ⟨ga,0,none⟩)) ?_;refine qT 9 (.pointer (some ⟨ga,0,none⟩)) ?_;refine qC 10 (v:=.pointer (some ⟨gv,0,none⟩)) (λW hW=>hW.c0) ?_;refine qT 11 (.pointer (some ⟨gv,0,none⟩)) ?_;refine qT 12 (.pointer (some ⟨gv,18,none⟩)) ?_;refine qC 13 (v:=.int .i64 now) (λW hW=>hW.n) ?_;refine qM 14 (.pointer (some ⟨ga,0,none⟩)) ?_;refine qT 15 (.pointer (some ⟨ga,0,none⟩)) ?_;refine qT 16 (.pointer (some ⟨ga,0,none⟩)) ?_;refine qC 17 (v:=.pointer (some ⟨gv,0,none⟩)) (λW hW=>hW.c0) ?_;refine qT 18 (.pointer (some ⟨gv,0,none⟩)) ?_;refine qT 19 (.pointer (some ⟨gv,19,none⟩)) ?_;obtain⟨m5,a9,F5,b0,a1,a8⟩:=id D;have V:=a1.co;rw[<- a4.out] at V;rcases V with ⟨_,_,hc⟩|⟨gc,gl,gi,bi,C2,rfl,hF,hc,a2,b1⟩
  ·cases hc
  injection hc with hc
  subst hc;have c19:=a1.cells.2.2.2;have a5:=jz (pL a2);refine kS 20 (some 23) (.pointer (some ⟨gc,0,none⟩)) w5 (hS:=J.out _ D I) (h:=?_);simp only[jq];refine kF 21 (some 24) ((a5).mono ?_);rintro e w6 ⟨rfl,rfl⟩;refine⟨_,rfl,J _ D I,λhH=>?_⟩;simp only[jq];refine qT 22 (.bool (decide (now<=C.til))) ?_;refine qT 23 (.bool (decide (now<=C.til))) ?_;refine kE (h:=?_);have O:=jz D;have R:=jz (HD.trans I);clear D I a1 a8 a2 c19 hH;by_cases hle:now<=C.til
  ·have HZ:Hid (Z=7):=jz (by rw[HQ.out];exact jP hle);go_wp2_with fail
   go_ret;exact⟨by rw[HZ.out];rfl,O,R⟩
  ·have HZ:Hid (Z=0):=jz (by rw[HQ.out];exact jQ hle);go_wp2_with fail
   go_ret;exact⟨by rw[HZ.out];rfl,O,R⟩
end
end
section
open Go.RowKit
attribute [local irreducible] wpQuiet wpAnyH
def auE(a:AuD)(skew:Int):b8:=(aG (auG a),e9 a.time skew)
theorem oT(a:AuD):(auG a).length=32:=bL _
theorem GH(a:AuD)(skew:Int):EntOk (auE a skew):=
 ⟨⟨by show(aG (auG a)).length=32;rw[aL,oT],λb hb=>by
  obtain⟨x,D,rfl⟩:=List.mem_map.1 hb
  have:=gV _ x D
  omega⟩,uW _ _⟩
def mF(s:VS)(C:CacheD)(q:b8):Int×VS:=((mD s.d (s.d.sec.length/2) C q s.now).1,⟨(mD s.d (s.d.sec.length/2) C q s.now).2.1,s.now,some (mD s.d (s.d.sec.length/2) C q s.now).2.2⟩)
section
variable {w0 w w' : Wd} {gv g9 k N : Nat} {key : Nat -> Nat} {skew : Int} {s : VS} {X : Nat -> Prop} {ga : Nat} {bv : Value}
theorem VE.cacheC(h:VE w0 w gv g9 k N key skew s X){C:CacheD}(hc:s.co=some C)(hk:k<=60)(q:b8)(hq:EntOk q):∃ gc,w.cell? ⟨gv,19,none⟩=some (.pointer (some ⟨gc,0,none⟩))/\∀ W,Bw w W->Wc 54 #[.pointer (some ⟨gc,0,none⟩),.agg (aO q).toArray,.int .i64 s.now] W λe w'=>e = .returned (.int .i64 (mF s C q).1)/\VE w0 w' gv g9 (k+1) N key skew (mF s C q).2 X/\XT X W w'/\w'.cell? ⟨gv,19,none⟩=some (.pointer (some ⟨gc,0,none⟩))/\w'.cell? ⟨gv,18,none⟩=some (.int .i64 s.now):=by
 obtain⟨m,cv,F,hg,U,hx⟩:=h;rcases U.co with ⟨_,_,hn⟩|⟨gc,gl,gi,bi,C',rfl,hF,hc2,J,a1⟩
 ·rw[hc] at hn;cases hn
 rw[hc] at hc2;injection hc2 with hc2
 subst hc2;refine⟨gc,U.cells.2.2.2,λW V=>?_⟩;have a3:=U.rm;have hE:=J.ix.len;have I:=J.keep V;refine(OU q s.now W m s.d gc gl gi bi (s.d.sec.length/2) (30+k) C I hq (by omega) (by omega)).mono ?_;rintro e w' ⟨rfl,m',D,Z⟩;have a0:=SO I (by omega) (by omega) s.now;have K:=SN J.lk.dk.ok.st (s.d.sec.length/2) C q s.now a0.st;have a2:=U.keep V;have O:∀ b∈[gl,bi],b∈F:=λb hb=>by
  rw[hF];simp only[jl,j8,or_false] at hb ⊢;rcases hb with h|h
  ·exact .inl h
  ·exact .inr (.inl h)
 have R:=a2.cache (d':=(mD s.d (s.d.sec.length/2) C q s.now).2.1) (co:=some (mD s.d (s.d.sec.length/2) C q s.now).2.2) (k':=k+1) O D.lk.dk (.inr ⟨gc,gl,gi,bi,_,rfl,hF,rfl,by rw[K.2];exact D,a1⟩) Z K.2 (by omega);have h4:=VE.of (λb hb=>⟨(hx b hb).1,jp (hx b hb).2 V.size⟩) hg R.1 R.2;exact⟨rfl,h4.1,h4.2,R.1.cells.2.2.2,R.1.cells.2.2.1⟩
structure InX(ga gv ge gc:Nat)(now:Int)(E:Wv)(W:Wd):Prop where
 c0:W.cell? ⟨ga,0,none⟩=some (.pointer (some ⟨gv,0,none⟩))
 n:W.cell? ⟨gv,18,none⟩=some (.int .i64 now)
 c:W.cell? ⟨gv,19,none⟩=some (.pointer (some ⟨gc,0,none⟩))
 e:W.rangeAt ge 0 E
theorem P5{B:Nat}{r:(TkD×AuD)×Int}{tk au:Wv}{c:Int}{C:CacheD}(h:VE w0 w gv g9 k N key skew s X)(hk:k<=60)(hc:s.co=some C)(hB:Blk w ga 96 (mE gv bv tk au).toArray)(hP:TA B r tk au c w)(ha:AuOk r.1.2)(hT:TabK w)(e0:X ga):
  Wc 37 #[.pointer (some ⟨ga,0,none⟩)] w λe w'=>e = .returned (.int .i64 (mF s C (auE r.1.2 skew)).1)/\VE w0 w' gv g9 (k+1) N key skew (mF s C (auE r.1.2 skew)).2 X/\XT X w w':=by
 have hq:=hP.ok;have hx:=h.acX hB hq.1;have HX:=jz (λW (hb:Bw w W)=>hx.keep hb);have HL:=jz hq;have d3:Hid ((prog.info? 55).map (·.size)=some au.length):=jz (by rw[hq.2.1];exact auI);obtain⟨_,v1,v2,e1,e2,h4,h5⟩:=hP;have hn:=h.nows;have a9:=jz (λW (hb:Bw w W)=>D5 r.1.2 v2 W ha ((Sn.own h5).below hb) (hT.below hb));have a1:=jz (λW=>GE r.1.2 v2 skew W hn.2 ha.time (eP h5));rw[<- e2] at a9 a1;have HV:=jz h;have c6:=jz (And.intro hk (And.intro hc e0));have f3:=jz hB;have d7:=jz h.lt;obtain⟨G,hG⟩:=je (n8 (auG r.1.2));have b2:G.length=32:=by rw[hG,aJ];exact oT _
 have a2:Hid ((prog.info? 24).map (·.size)=some G.toArray.size/\dZ.size=G.toArray.size/\G.toArray.all (·.oneCell')=true/\G.length=32):=jz ⟨by rw[js,b2];kernel_rfl,by
  have h3:G.toArray.size=32:=by rw[js,b2]
  rw[h3];rfl,by rw[hG];exact all_oneCell_toArray (bK _),b2⟩
 obtain⟨E,hE⟩:=je (aO (auE r.1.2 skew));obtain⟨x,c4⟩:=je (e9 r.1.2.time skew);have c5:Hid (prog.built 26 [(0,.agg G.toArray),(1,.int .i64 x)]=some E.toArray):=jz (by
  have h1:=KZ (aG (auG r.1.2)) (e9 r.1.2.time skew) (by rw[aL,oT])
  rw[<- eI,<- hG,<- c4] at h1
  rw[h1,hE]
  unfold auE
  rw[<- c4])
 have U:Hid (E.length=33/\∀ u∈E,u.oneCell'=true):=jz ⟨by rw[hE];exact bC _ (GH _ _),λu hu=>by
  rw[hE] at hu
  exact Array.all_eq_true_iff_forall_mem.1 (gO _ _) u (by simpa [aO] using hu)⟩
 have f2:=jz hE;rw[<- hG] at a9;rw[<- c4] at a1;obtain⟨z,hz⟩:=je (mF s C (auE r.1.2 skew));rw[<- hz];have g8:=jz hz;obtain⟨now,d1⟩:=je s.now;rw[<- d1] at HX;have f7:=jz d1;obtain⟨h0,a4⟩:=je z.1;rw[<- a4];have f1:=jz a4;clear h hk hc hB hq hx e1 e2 h4 h5 hn ha hT e0 hG b2 hE c4 hz d1 a4;go_enter func37,ntmps37
 go_upto_region 1 with fail
 go_wp2_with (refine ld 55 (.tmp 9) rfl rfl (by rfl) (HX w (ji _ _)).a underlying55 rfl d3 ?_)
 refine(a9 w (ji _ _)).mono ?_;rintro e w2 ⟨rfl,e3⟩;go_upto_region 2 with (first
  | (refine al 24 dZ rfl rfl IR ?_)
  | (refine bQ 24 (.tmp 3) (.tmp 12) rfl rfl (by rfl) (by rfl) a2.out.1 a2.out.2.1 a2.out.2.2.1 ?_;intro I c9 e4 h7))
 try simp only[jq]
 obtain⟨g3,e6⟩:=je w2.heap.size;rw[<- e6] at c9 ⊢;have d4:Hid (Blk I g3 24 G.toArray):=jz c9;have a8:=jz (aB e3 e4);clear c9 e4 h7 e6 e3 a9;go_upto_region 4 with fail
 go_cut [5] from 16 to 29 (λv5 wx=>∃ D,v5 = .pointer (some ⟨D,0,none⟩)/\Blk wx D 26 E.toArray/\I.heap.size<=D/\Bw I wx)
 case first=>
  have f8:Hid (∀ W,Bw I W->W.rangeAt g3 0 G):=jz (λW J=>by have h:=(d4.keep J).range;rwa [jt] at h);have c7:Hid (∀ W,Bw I W->AcX ga gv tk au now skew W):=jz (λW J=>HX.out W (aB a8 J));refine kZ (n:=16) (λW=>Bw I W) ((ji _ _).drew) (h:=λhH=>?_);refine qL 0 (cs:=G) (λW J=>f8.out W J) (a2.out.2.2.2) ?_;refine qM 1 (.pointer (some ⟨ga,0,none⟩)) ?_;refine qT 2 (.pointer (some ⟨ga,0,none⟩)) ?_;refine qT 3 (.pointer (some ⟨ga,22,none⟩)) ?_;refine qL 4 (cs:=au) (λW J=>(c7 W J).a) (HL.out.2.1) ?_;refine qM 5 (.pointer (some ⟨ga,0,none⟩)) ?_;refine qT 6 (.pointer (some ⟨ga,0,none⟩)) ?_;refine qT 7 (.pointer (some ⟨ga,0,none⟩)) ?_;refine qC 8 (v:=.pointer (some ⟨gv,0,none⟩)) (λW J=>(c7 W J).c0) ?_;refine qT 9 (.pointer (some ⟨gv,0,none⟩)) ?_;refine qT 10 (.pointer (some ⟨gv,16,none⟩)) ?_;refine qC 11 (v:=.int .i64 skew) (λW J=>(c7 W J).s) ?_;refine jW [12,14] (rF 12 (some 28) ((a1 _).mono ?_) (rA 14 (some 5) zE rS (aB hH (aV _ _)) ?_ jN))
  ·rintro e w4 ⟨rfl,d0⟩;have Z:=aB hH d0;refine⟨_,rfl,Z,λ_=>?_⟩;simp only[jq];refine kB 13 (some 29) (vs:=[(0,.agg G.toArray),(1,.int .i64 x)]) c5 (h:=?_);simp only[jq];refine jW [14] (rA 14 (some 5) zE rS (aB Z (aV _ _)) ?_ jN);simp only[jq];obtain⟨D,O⟩:=je w4.heap.size;obtain⟨w5,c2⟩:=je (w4.alloc (.cells zE 26));have hE_:Blk w5 D 26 zE:=by rw[c2,O];exact Blk.new _ _ _
   have b7:Bw w4 w5:=by rw[c2];exact aV _ _
   have b3:=aB Z b7;have R:I.heap.size<=D:=by rw[O];exact Z.size
   rw[<- c2,<- O];clear c2 O;have a7:=D2 b3 R E;refine kR 15 none (n:=33) (cs:=E) (lF hE_ (by exact ja _)) U.out.1 U.out.2 a7 (h:=?_);simp only[jq];refine kE (h:=?_);have a5:∃ V,Value.pointer (some ⟨D,0,none⟩) = .pointer (some ⟨V,0,none⟩)/\Blk (w5.setCells D 0 E) V 26 E.toArray/\I.heap.size<=V/\Bw I (w5.setCells D 0 E):=⟨D,rfl,pV E hE_ (by rw[U.out.1];rfl),R,a7⟩;go_wp2_with fail
   go_meet
   exact a5
  ·simp only[jq];obtain⟨D,O⟩:=je I.drew.heap.size;obtain⟨w4,b9⟩:=je (I.drew.alloc (.cells zE 26));have hE_:Blk w4 D 26 zE:=by rw[b9,O];exact Blk.new _ _ _
   have d0:Below I.drew.heap.size I.drew w4:=by rw[b9];exact aV _ _
   have Z:=aB hH d0;have R:I.heap.size<=D:=by rw[O];exact hH.size
   rw[<- b9,<- O];clear b9 O;refine kF 12 (some 28) ((a1 _).mono ?_);rintro e w5 ⟨rfl,b7⟩;have b3:=aB Z b7;have hE_:=hE_.keep b7;refine⟨_,rfl,b3,λ_=>?_⟩;simp only[jq];refine kB 13 (some 29) (vs:=[(0,.agg G.toArray),(1,.int .i64 x)]) c5 (h:=?_);simp only[jq];have a7:=D2 b3 R E;refine kR 15 none (n:=33) (cs:=E) (lF hE_ (by exact ja _)) U.out.1 U.out.2 a7 (h:=?_);simp only[jq];refine kE (h:=?_);have a5:∃ V,Value.pointer (some ⟨D,0,none⟩) = .pointer (some ⟨V,0,none⟩)/\Blk (w5.setCells D 0 E) V 26 E.toArray/\I.heap.size<=V/\Bw I (w5.setCells D 0 E):=⟨D,rfl,pV E hE_ (by rw[U.out.1];rfl),R,a7⟩;go_wp2_with fail
   go_meet
   exact a5
 case rest=>
  rename Wd=>w6
  obtain⟨D,rfl,a3,e8,e5⟩:=hcut;have h8:=jz a3;have a0:=jz (aB a8 e5);have f9:=jz (HV.xw a0);obtain⟨gc,e7,a6⟩:=f9.cacheC c6.out.2.1 c6.out.1 (auE r.1.2 skew) (GH _ _);rw[<- f2.out,<- g8.out,<- f7.out,<- f1.out] at a6;have d5:Hid (XW X w w6 D/\XW X w w6 ga):=jz ⟨.inr ⟨jm a8.size e8,a3.lt⟩,.inl c6.out.2.2⟩;have c3:=(HX.out w6 a0);have K:Bw w6 w6.drew:=(ji _ _).drew;have f4:Hid (InX ga gv D gc now E w6.drew):=jz ⟨j9 K c3.c0,j9 K c3.n,j9 K e7,by have h:=(a3.keep K).range;rwa [jt] at h⟩;have f5:Hid (∀ W,XT (XW X w w6) w6.drew W->W.cell? ⟨gv,19,none⟩=some (.pointer (some ⟨gc,0,none⟩))->W.cell? ⟨gv,18,none⟩=some (.int .i64 now)->InX ga gv D gc now E W):=jz (λW hx b1 b0=>by
   have h6:Blk W D 26 E.toArray:=(hx.block D d5.out.1).trans (a3.keep K)
   have h2:W.heap[ga]? = w6.heap[ga]?:=(hx.block ga d5.out.2).trans (K.block ga (jp f3.lt a0.size))
   refine⟨(World.cell?_of_block h2).trans c3.c0,b0,b1,?_⟩
   have h:=h6.range
   rwa [jt] at h)
  have f6:=jz (a6 w6.drew K);have g1:Hid (∀ W,XT (XW X w w6) w6.drew W->XT X w W):=jz (λW hx=>(XT.of_below d7 a0).trans ((XT.of_below (λb hb=>jp (d7 b hb) a0.size) K).trans ⟨hx.size,λb hb=>hx.block b (.inl hb)⟩));clear a3 e8 e5 d4 a8 a1 c5 a2 d3 e7 a6 c3 K;go_upto_region 5 with fail
  refine kZ (n:=17) (InX ga gv D gc now E) (f4) (h:=λhH=>?_);refine qM 0 (.pointer (some ⟨ga,0,none⟩)) ?_;refine qT 1 (.pointer (some ⟨ga,0,none⟩)) ?_;refine qT 2 (.pointer (some ⟨ga,0,none⟩)) ?_;refine qC 3 (v:=.pointer (some ⟨gv,0,none⟩)) (λW J=>J.c0) ?_;refine qT 4 (.pointer (some ⟨gv,0,none⟩)) ?_;refine qT 5 (.pointer (some ⟨gv,19,none⟩)) ?_;refine qC 6 (v:=.pointer (some ⟨gc,0,none⟩)) (λW J=>J.c) ?_;refine qL 7 (cs:=E) (λW J=>J.e) (U.out.1) ?_;refine qM 8 (.pointer (some ⟨ga,0,none⟩)) ?_;refine qT 9 (.pointer (some ⟨ga,0,none⟩)) ?_;refine qT 10 (.pointer (some ⟨ga,0,none⟩)) ?_;refine qC 11 (v:=.pointer (some ⟨gv,0,none⟩)) (λW J=>J.c0) ?_;refine qT 12 (.pointer (some ⟨gv,0,none⟩)) ?_;refine qT 13 (.pointer (some ⟨gv,18,none⟩)) ?_;refine qC 14 (v:=.int .i64 now) (λW J=>J.n) ?_;refine kF 15 (some 45) ((f6).mono ?_);rintro e w9 ⟨rfl,f0,d2,b1,b0⟩;refine⟨_,rfl,f5 _ d2 b1 b0,λhH=>?_⟩;simp only[jq];refine qT 16 (.int .i64 h0) ?_;refine kE (h:=?_);have g0:=jz (f0.less (λb hb=>.inl hb));have g2:=jz (g1 _ d2);clear f0 d2 b1 b0;go_wp2_with fail
  go_ret;exact⟨rfl,g0,g2⟩
end
end
section
open Go.RowKit
attribute [local irreducible] wpQuiet wpAnyH
def nV(key:Nat->Nat)(skew:Int)(s:VS)(b:Wl):Int×VS:=
 if (rqO key b).2≠0 then ((rqO key b).2,aR s)
 else if fY (rqO key b).1.1 (rqO key b).1.2 s.now skew≠0 then (fY (rqO key b).1.1 (rqO key b).1.2 s.now skew,aR s)
 else if kJ s≠0 then (kJ s,aR s)
 else match (aR s).co with
  | none=>(0,aR s)
  | some C=>((mF (aR s) C (auE (rqO key b).1.2 skew)).1,aR (mF (aR s) C (auE (rqO key b).1.2 skew)).2)
theorem VO{key:Nat->Nat}{b:Wl}(hb:Bys b)(K:b.length<=1000000)(h:(rqO key b).2=0):TkOk (rqO key b).1.1/\AuOk (rqO key b).1.2:=by
 have J:=I2 hb K;unfold rqO at h ⊢;split at h
 ·cases h
 rename_i h1;rw[jQ h1];split at h
 ·rename_i D;exact absurd h D
 rename_i D;rw[jQ D];split at h
 ·rename_i I;exact absurd h I
 rename_i I;rw[jQ I];exact⟨PU J.1.1 J.1.2 (by simpa using D),VK J.2.1 J.2.2 (by simpa using I)⟩
theorem TA.same{B:Nat}{r:(TkD×AuD)×Int}{K J:Wv}{c:Int}{W W':Wd}(h:TA B r K J c W)(hs:∀ b,B<=b->b<W.heap.size->W'.heap[b]? = W.heap[b]?):TA B r K J c W':=by
 obtain⟨h1,v1,v2,O,R,D,I⟩:=h;exact⟨h1,v1,v2,O,R,aS D (λb hb=>hs b (D.lt b hb).1 (D.lt b hb).2),aS I (λb hb=>hs b (I.lt b hb).1 (I.lt b hb).2)⟩
section
variable {w0 w w' : Wd} {gv g9 k N : Nat} {key : Nat -> Nat} {skew : Int} {s : VS} {X : Nat -> Prop}
theorem VE.offN{g:Nat}(h:VE w0 w gv g9 k N key skew s X)(J:Off g w w')(hg:X g)(U:w0.heap.size<=g):VE w0 w' gv g9 k N key skew s (XW X w w'):=by
 obtain⟨m,cv,F,h1,D,R⟩:=h;have K:=(R g hg).1;have O:gv≠g:=λe=>K.2 (e ▸ List.mem_cons_self ..)
 exact⟨m,cv,F,h1,⟨⟨D.st.dk.offO J K.1,D.st.ft,D.st.bel.trans (J.below U D.st.bel.size)⟩,J.blk D.blk O,D.co.off J ⟨K.1,λV=>K.2 (List.mem_cons.2 (.inr V))⟩,D.far,D.lo,D.now,D.skew,D.len,D.few,D.rm⟩,λb hb=>by
  rcases hb with I|I
  ·exact⟨(R b I).1,jp (R b I).2 J.size⟩
  ·exact⟨D.far_new I.1,I.2⟩⟩
def I4(ga:Nat):Wa:=#[.func (.func 34) #[.pointer (some ⟨ga,0,none⟩)] #[],.func (.func 35) #[.pointer (some ⟨ga,0,none⟩)] #[],.func (.func 36) #[.pointer (some ⟨ga,0,none⟩)] #[],.func (.func 37) #[.pointer (some ⟨ga,0,none⟩)] #[]]
theorem lJ(b:Wl)(A:Option Addr)(n cap:Nat)(c7:aQ key)(hT:TabK w0)(hs:Sn w 1 (.slice A n cap) b.length (u8s b))(hb:Bys b)(hl:b.length<=1000000)(hk:k<=60)(h:VE w0 w gv g9 k N key skew s X):
  Wc 18 #[.pointer (some ⟨gv,0,none⟩),.slice A n cap] w λe w'=>e = .returned (.int .i64 (nV key skew s b).1)/\VE w0 w' gv g9 (k+1) N key skew (nV key skew s b).2 X/\XT X w w':=by
 have h4:∀(fn:Fn) (first cap:Wa) (w:Wd),(Instr.makeFunc fn first cap).run prog w = .ok (.func fn first cap) w:=λ_ _ _ _=>rfl
 have hn:n=b.length:=by
  obtain⟨A',c',e,_⟩:=id hs;injection e
 have H:=jz h;have a8:=jz h.lt;have g1:=jz h.lo;have f0:=jz (PR gv A n cap);have c6:=jz (VO (key:=key) hb hl);have HS:=jz hs;have HQ:Hid (nV key skew s b=if (rqO key b).2≠0 then ((rqO key b).2,aR s)
  else if fY (rqO key b).1.1 (rqO key b).1.2 s.now skew≠0 then (fY (rqO key b).1.1 (rqO key b).1.2 s.now skew,aR s)
  else if kJ s≠0 then (kJ s,aR s)
  else match (generalizing:=false) (aR s).co with
   | none=>(0,aR s)
   | some C=>((mF (aR s) C (auE (rqO key b).1.2 skew)).1,aR (mF (aR s) C (auE (rqO key b).1.2 skew)).2)):=jz rfl
 have a9:=jz (fun(W:Wd) (h0:TabK W) (h5:Sn W 1 (.slice A b.length cap) b.length (u8s b))=>LF key b A cap W c7 h0 h5 hb hl);rw[<- hn] at a9;obtain⟨Z,hZ⟩:=je (nV key skew s b);rw[<- hZ] at HQ ⊢;obtain⟨r,hr⟩:=je (rqO key b);rw[<- hr] at HQ c6 a9;have HN:=jz hn;have HT:=jz hT;have HK:=jz hk;clear h hs hb hl hZ hr hn hT hk c7;go_enter func18,ntmps18
 go_wp2_with fail
 go_step3
 go_upto_region 5 with (refine gF 96 _ rfl rfl rfl f0 ?_)
 go_step3
 obtain⟨ga,e4⟩:=je w.heap.size;obtain⟨w2,b9⟩:=je (w.alloc (.cells (SR gv (.slice A n cap)) 96));have d3:Hid (Bw w w2):=jz (by rw[b9];exact aV _ _);have d0:Hid (Blk w2 ga 96 (SR gv (.slice A n cap))):=jz (by rw[b9,e4];exact Blk.new _ _ _);have a7:Hid (w.heap.size<=ga):=jz (by omega);rw[<- b9,<- e4];clear b9 e4;go_wp2_with fail
 obtain⟨gf,e5⟩:=je w2.heap.size;obtain⟨w3,c4⟩:=je (w2.alloc (.cells (I4 ga) 97));have d4:Hid (Bw w2 w3):=jz (by rw[c4];exact aV _ _);have a6:Hid (Blk w3 gf 97 (I4 ga)):=jz (by rw[c4,e5];exact Blk.new _ _ _);have f3:Hid (gf≠ga/\w.heap.size<=gf):=jz (by have:=d0.lt;have:=d3.size;exact⟨by omega,by omega⟩);have c9:w2.alloc (.cells #[.func (.func 34) #[.pointer (some ⟨ga,0,none⟩)] #[],.func (.func 35) #[.pointer (some ⟨ga,0,none⟩)] #[],.func (.func 36) #[.pointer (some ⟨ga,0,none⟩)] #[],.func (.func 37) #[.pointer (some ⟨ga,0,none⟩)] #[]] 97)=w3:=c4.symm;rw[c9,<- e5];clear c4 c9 e5;have R:=jz (aB d3 d4);have e2:=jz (H.out.xw R);have a5:=jz (d0.keep d4);have f4:=jz (VI (P:=TA w3.heap.size r) (key:=key) (tk0:=tkZ.toList) (au0:=auZ.toList) a5 (by rw[jk];exact eE) rfl e2.krange (by have:=H.out.gvlt;have:=a7.out;omega)
  (λW hW=>(a9 W ((HT.below e2.bel).below hW) (by have h:=(HS.below R).below hW;rwa [<- HN.out] at h)).mono (λe W' hr=>by
   obtain⟨tk,au,c,h1,h2,h3⟩:=hr
   exact⟨tk,au,c,h1,h2.base hW.size,h3⟩))
  (λtk au c W hp=>hp.ok) (λtk au c W W' hp ho=>hp.off ho a5.lt))
 have c0:w3.cell? ⟨gf,0,none⟩=some (.func (.func 34) #[.pointer (some ⟨ga,0,none⟩)] #[]):=a6.cell 0;refine wp_loop_rounds 5 ?_;rw[rounds_succ];go_wp2_with fail
 refine f4.mono ?_;rintro e w4 ⟨tk,au,c,rfl,hp,f7,ho⟩;have HXa:Hid (XW X w w3 ga):=jz (.inr ⟨a7,a5.lt⟩);have b0:=jz (e2.offN ho HXa (jm g1 a7));have b2:Hid (XT X w w4):=jz ⟨jm R.size ho.size,λb hb=>(ho.block b (jp (a8 b hb) R.size) (by have:=a8.out b hb;have:=a7.out;omega)).trans (R.block b (a8 b hb))⟩;have f2:=jz (ho.blk a6 f3.out.1);have d1:=jz f7;have e1:=jz hp;have e0:=jz (AK b0);have b3:c=r.2:=hp.1;have g3:=jz hp.ok.1;have HX4a:Hid (XW (XW X w w3) w3 w4 ga/\XW (XW X w w3) w3 w4 gf):=jz ⟨.inl HXa,.inl (.inr ⟨f3.out.2,a6.lt⟩)⟩;clear ho c0 hp f7 f4 a9 d3 d0 d4 a5 a6 f0 h4;by_cases hc0:r.2≠0
 ·have HZ:Hid (Z=(r.2,aR s)):=jz (by rw[HQ.out,jP hc0]);rw[<- b3] at HZ hc0;have f8:¬c=0:=hc0;clear b3 hc0;go_wp2_with fail
  refine e0.mono ?_;rintro e w5 ⟨rfl,J,D⟩;have K:Hid (VE w0 w5 gv g9 (k+1) N key skew (aR s) X):=jz ((J.less (λb hb=>.inl (.inl hb))).up (Nat.le_succ _));have O:Hid (XT X w w5):=jz (b2.trans ⟨D.size,λb hb=>D.block b (.inl (.inl hb))⟩);clear J D e0;go_wp2_with fail
  try rw[Exit.noGoto_ret]
  go_ret;rw[HZ.out];exact⟨rfl,K,O⟩
 have e6:r.2=0:=by simpa using hc0
 rw[e6] at b3;subst b3;have b7:=c6.out e6;rw[jQ hc0] at HQ;clear hc0 e6;have c1:w4.cell? ⟨gf,1,none⟩=some (.func (.func 35) #[.pointer (some ⟨ga,0,none⟩)] #[]):=f2.cell 1;have f1:=jz (S7 b0 d1 e1 b7.1 b7.2);have g2:=jz b7;clear b7;go_wp2_with fail
 rw[rounds_succ];go_wp2_with fail
 refine f1.mono ?_;rintro e w5 ⟨rfl,a2⟩;have K:=jz (b0.keep a2);have d2:=jz (d1.keep a2);have d5:=jz (f2.keep a2);have O:Hid (XT X w w5):=jz (b2.trans (XT.of_below (λb hb=>jp (a8 b hb) b2.size) a2));have e8:=jz a2;clear a2 f1 c1 e0 b0 d1 b2;by_cases hc0:fY r.1.1 r.1.2 s.now skew≠0
 ·have HZ:Hid (Z=(fY r.1.1 r.1.2 s.now skew,aR s)):=jz (by rw[HQ.out,jP hc0]);obtain⟨pz,a4⟩:=je (fY r.1.1 r.1.2 s.now skew);rw[<- a4] at HZ hc0 ⊢;have f8:¬pz=0:=hc0;have I:=jz (AK K);clear hc0 a4;go_wp2_with fail
  refine I.mono ?_;rintro e wZ ⟨rfl,J,D⟩;have K:Hid (VE w0 wZ gv g9 (k+1) N key skew (aR s) X):=jz ((J.less (λb hb=>.inl (.inl hb))).up (Nat.le_succ _));have O:Hid (XT X w wZ):=jz (O.trans ⟨D.size,λb hb=>D.block b (.inl (.inl hb))⟩);clear J D I;go_wp2_with fail
  try rw[Exit.noGoto_ret]
  go_ret;rw[HZ.out];exact⟨rfl,K,O⟩
 have U:fY r.1.1 r.1.2 s.now skew=0:=by simpa using hc0
 rw[jQ hc0] at HQ;rw[U];clear hc0 U;have c2:w5.cell? ⟨gf,2,none⟩=some (.func (.func 36) #[.pointer (some ⟨ga,0,none⟩)] #[]):=d5.cell 2;have f6:=jz (VN K d2 g3 HX4a.out.1);go_wp2_with fail
 rw[rounds_succ];go_wp2_with fail
 refine f6.mono ?_;rintro e w6 ⟨rfl,f9,a3⟩;have b1:=jz f9;have e7:Hid (Blk w6 ga 96 (mE gv (.slice A n cap) tk au).toArray):=jz ((a3.block ga HX4a.out.1).trans d2);have d7:Hid (Blk w6 gf 97 (I4 ga)):=jz ((a3.block gf HX4a.out.2).trans d5);have f5:=jz (e1.same (W':=w6) (λb h1 h2=>(a3.block b (.inr ⟨h1,h2⟩)).trans (e8.block b h2)));have e3:Hid (XT X w w6):=jz (O.trans ⟨a3.size,λb hb=>a3.block b (.inl (.inl hb))⟩);clear f9 a3 f6 c2 K d2 d5 O e1 e8;by_cases hc0:kJ s≠0
 ·have HZ:Hid (Z=(kJ s,aR s)):=jz (by rw[HQ.out,jP hc0]);obtain⟨pz,a4⟩:=je (kJ s);rw[<- a4] at HZ hc0 ⊢;have f8:¬pz=0:=hc0;have I:=jz (AK b1);clear hc0 a4;go_wp2_with fail
  refine I.mono ?_;rintro e wZ ⟨rfl,J,D⟩;have K:Hid (VE w0 wZ gv g9 (k+1) N key skew (aR s) X):=jz (by rw[FY] at J;exact(J.less (λb hb=>.inl (.inl hb))).up (Nat.le_succ _));have O:Hid (XT X w wZ):=jz (e3.trans ⟨D.size,λb hb=>D.block b (.inl (.inl hb))⟩);clear J D I;go_wp2_with fail
  try rw[Exit.noGoto_ret]
  go_ret;rw[HZ.out];exact⟨rfl,K,O⟩
 have U:kJ s=0:=by simpa using hc0
 rw[jQ hc0] at HQ;have V:∃ C,(aR s).co=some C:=by
  cases V:(aR s).co with
  | none=>unfold kJ at U;rw[V] at U;cases U
  | some C=>exact⟨C,rfl⟩
 obtain⟨C,V⟩:=V;have HZ:Hid (Z=((mF (aR s) C (auE r.1.2 skew)).1,aR (mF (aR s) C (auE r.1.2 skew)).2)):=jz (by rw[HQ.out,V]);rw[U];clear hc0 U HQ;have c3:w6.cell? ⟨gf,3,none⟩=some (.func (.func 37) #[.pointer (some ⟨ga,0,none⟩)] #[]):=d7.cell 3;have a1:=jz (P5 b1 HK V e7 f5 g2.out.2 (HT.below b1.bel) HX4a.out.1);obtain⟨z,hz⟩:=je (mF (aR s) C (auE r.1.2 skew));rw[<- hz] at a1 HZ;obtain⟨ans,st⟩:=z;simp only at a1 HZ;clear hz V;go_wp2_with fail
 rw[rounds_succ];go_wp2_with fail
 refine a1.mono ?_;rintro e w7 ⟨rfl,g0,c5⟩;have g8:Hid (XT X w w7):=jz (e3.trans ⟨c5.size,λb hb=>c5.block b (.inl (.inl hb))⟩);have I:=jz (AK g0);have h6:Hid (Blk w7 gf 97 (I4 ga)):=jz ((c5.block gf HX4a.out.2).trans d7);clear g0 c5 a1 c3 b1 e7 d7 e3 f5;have a0:Hid (∀ wZ,VE w0 wZ gv g9 (k+1) N key skew (aR st) (XW (XW X w w3) w3 w4)->XT (XW (XW X w w3) w3 w4) w7 wZ->(Ending.returned (Value.int .i64 ans) = .returned (.int .i64 Z.1))/\VE w0 wZ gv g9 (k+1) N key skew Z.2 X/\XT X w wZ):=jz (λwZ hv hx=>by
  rw[HZ.out]
  exact⟨rfl,hv.less (λb hb=>.inl (.inl hb)),g8.trans ⟨hx.size,λb hb=>hx.block b (.inl (.inl hb))⟩⟩)
 by_cases hc0:ans=0
 ·subst hc0;go_wp2_with fail
  rw[rounds_succ];go_wp2_with fail
  refine I.mono ?_;rintro e wZ ⟨rfl,J,D⟩;have HE:=jz (a0 wZ J D);clear J D I a0;go_wp2_with fail
  try rw[Exit.noGoto_ret]
  go_ret;exact HE.out
 ·go_wp2_with fail
  refine I.mono ?_;rintro e wZ ⟨rfl,J,D⟩;have HE:=jz (a0 wZ J D);clear J D I a0;go_wp2_with fail
  try rw[Exit.noGoto_ret]
  go_ret;exact HE.out
end
end
section
open Go.RowKit
attribute [local irreducible] wpQuiet wpAnyH
structure WS(s:VS)(C:CacheD)(b:Nat):Prop where
 co:s.co=some C
 qs:QS 8 s.d C b
section
variable {s : VS} {C : CacheD} {b : Nat} {key : Nat -> Nat} {skew : Int} {bs : Wl} {t : TkD} {a : AuD}
theorem WS.down(h:WS s C b):s.d.down=false:=by
 obtain⟨sec,st,r,hd,_⟩:=h.qs.q;rw[hd];rfl
theorem WS.len(h:WS s C b):s.d.sec.length=8:=by
 obtain⟨sec,st,r,hd,D,_⟩:=h.qs.q;rw[hd];exact D
theorem WS.look(h:WS s C b):aR s=s:=by
 unfold aR;rw[h.down];rfl
theorem WM(skew now:Int):∃ d L,m7 skew ⟨gQ 8,now,none⟩=(none,⟨d,now,some ⟨L,[],e9 now skew⟩⟩)/\WS ⟨d,now,some ⟨L,[],e9 now skew⟩⟩ ⟨L,[],e9 now skew⟩ 1/\L.cnt=0:=by
 obtain⟨d,L,I,J,D,_⟩:=QS.new (e9 now skew);refine⟨d,L,?_,⟨rfl,J⟩,D⟩;have hs:dX (gQ 8)=gQ 8:=rfl;unfold m7;rw[hs,I];rfl
theorem WN(h:WS s C b)(n:Int):pT s n=⟨s.d,kI s.now n,s.co⟩/\WS ⟨s.d,kI s.now n,s.co⟩ C b:=by
 refine⟨?_,⟨h.co,h.qs⟩⟩;unfold pT;rw[h.look]
theorem WS.wait(h:WS s C b)(ht:C.til<s.now):kJ s=0:=by
 unfold kJ;rw[h.look,h.co];show(if s.now<=C.til then 7 else 0)=0;rw[jQ (by omega)]
theorem WS.vfy(h:WS s C b)(D:rqO key bs=((t,a),0))(I:fY t a s.now skew=0)(ht:C.til<s.now):nV key skew s bs=((mF s C (auE a skew)).1,aR (mF s C (auE a skew)).2):=by
 unfold nV;rw[D];simp only;rw[jQ (by simp),I,jQ (by simp),h.wait ht,jQ (by simp),h.look,h.co]
theorem GI(h:WS s C b)(ho:rqO key bs=((t,a),0))(hp:fY t a s.now skew=0)(ht:C.til<s.now)(Z:pF C.E (aG (auG a)) s.now=false)(hr:bG (auE a skew)=true)(V:C.L.cnt+1<4)(hb:b+1<=200):
  ∃ d' D,nV key skew s bs=(10,⟨d',s.now,some D⟩)/\WS ⟨d',s.now,some D⟩ D (b+1)/\D.L.cnt=C.L.cnt+1/\D.E=(cR C.E (auE a skew)).1/\D.til=C.til:=by
 obtain⟨d',D,J,K,O,R,U⟩:=VD (now:=s.now) h.qs (GH a skew) hr Z V hb;have hi:mF s C (auE a skew)=(10,⟨d',s.now,some D⟩):=by
  unfold mF;rw[h.len,J]
 have I:WS ⟨d',s.now,some D⟩ D (b+1):=⟨rfl,K⟩;refine⟨d',D,?_,I,O,R,U⟩;rw[h.vfy ho hp ht,hi];show((10:Int),aR ⟨d',s.now,some D⟩)=_;rw[I.look]
theorem GJ(h:WS s C b)(J:rqO key bs=((t,a),0))(K:fY t a s.now skew=0)(ht:C.til<s.now)(I:pF C.E (aG (auG a)) s.now=true):nV key skew s bs=(8,s):=by
 have hi:mF s C (auE a skew)=(8,s):=by
  unfold mF mD;have D:pF C.E (auE a skew).1 s.now=true:=I;rw[jP D];obtain⟨d,n,co⟩:=s;have:=h.co;simp only at this;rw[this]
 rw[h.vfy J K ht,hi];show((8:Int),aR s)=_;rw[h.look]
theorem WS.live(h:WS s C b):jB s=bM C.E s.now:=by
 unfold jB;rw[h.look,h.co]
theorem S9(q:b8)(now:Int)(D:now<=q.2):bM (cR [] q).1 now=[q]/\pF (cR [] q).1 q.1 now=true:=by
 have h1:(cR [] q).1=[q]:=rfl;rw[h1];unfold bM pF;simp[D]
theorem yS(skew I n:Int):∃ D J C,m7 skew ⟨gQ 8,I,none⟩=(none,D)/\aR D=D/\jB D=[]/\D.now=I/\pT D n=J/\jB J=[]/\J.now=kI I n/\WS J C 1/\C.E=[]/\C.L.cnt=0/\C.til=e9 I skew:=by
 obtain⟨d,L,hb,K,R⟩:=WM skew I;obtain⟨ht,O⟩:=WN K n;refine⟨_,_,_,hb,K.look,?_,rfl,ht,?_,rfl,O,rfl,R,rfl⟩
 ·rw[K.live];rfl
 ·rw[O.live];rfl
theorem I5(h:WS s C 1)(R:C.E=[])(hc:C.L.cnt=0)(ht:C.til<s.now)(V:fY t a s.now skew=0)(U:rqO key bs=((t,a),0))(hr:bG (auE a skew)=true)(hl:s.now<=(auE a skew).2):
  ∃ D:VS,nV key skew s bs=(10,D)/\aR D=D/\jB D=[auE a skew]/\D.now=s.now/\nV key skew D bs=(8,D):=by
 have hh:pF C.E (aG (auG a)) s.now=false:=by rw[R];rfl
 obtain⟨d',J,e1,O,e3,e4,e5⟩:=GI (key:=key) (bs:=bs) (t:=t) (a:=a) h U V ht hh hr (by omega) (by omega);have Z:=S9 (auE a skew) s.now hl;have I:J.E=(cR [] (auE a skew)).1:=by rw[e4,R]
 have K:pF J.E (aG (auG a)) s.now=true:=by rw[I];exact Z.2
 have e6:=GJ (key:=key) (bs:=bs) (t:=t) (a:=a) O U V (by rw[e5];exact ht) K;refine⟨_,e1,O.look,?_,rfl,e6⟩;rw[O.live];show bM J.E s.now=_;rw[I];exact Z.1
theorem TB(h:WS s C b)(D:rqO key bs=((t,a),0))(I:fY t a s.now skew≠0):nV key skew s bs=(fY t a s.now skew,s):=by
 unfold nV;rw[D];simp only;rw[jQ (by simp),jP I,h.look]
end
end
section
open Go.RowKit
def kdB(n c st fi m tm sq:Nat):List Nat:=pS kyK (nnK sq) (tkK n c st fi) (auK m tm sq)
theorem I6{n c st fi m tm sq:Nat}(h1:st<=fi)(D:fi<=1099511627776)(I:tm<=1099511627776)(J:sq<4294967296):Byn (kdB n c st fi m tm sq):=K7 (O7 sq) (z8 h1 D) (AC I J)
theorem I7{n c st fi m tm sq:Nat}(h1:st<=fi)(D:fi<=1099511627776)(I:tm<=1099511627776)(J:sq<4294967296):(kdB n c st fi m tm sq).length<=5000:=K6 (z8 h1 D) (AC I J)
theorem D8{n c st fi m tm sq:Nat}(h1:st<=fi)(D:fi<=1099511627776)(I:tm<=1099511627776)(J:sq<4294967296):∃ t:TkD,t.client=iA n/\t.start=st/\t.fin=fi/\rqO kyK (aG (kdB n c st fi m tm sq))=((t,auK m tm sq),0):=
 ⟨_,rfl,rfl,rfl,PF (z8 h1 D) (AC I J)⟩
theorem wJ{a b:Int}(ha:0<=a/\a<=1099511627776)(hb:0<=b/\b<=1099511627776):oO a b=a-b:=by
 unfold oO;rw[jQ (by omega),jQ (by omega)]
theorem oU{a b:Int}(ha:0<=a/\a<=1099511627776)(hb:0<=b/\b<=1099511627776):e9 a b=a+b:=by
 unfold e9;rw[jQ (by omega),jQ (by omega)]
theorem LM{a b s:Int}(ha:0<=a/\a<=1099511627776)(hb:0<=b/\b<=1099511627776):kP a b<=s ↔ a-b<=s/\b-a<=s:=by
 unfold kP;rw[wJ (by omega) (by omega)];omega
theorem D9{t:TkD}{n m st fi tm sq:Nat}{now s:Int}(U:t.client=iA n)(h1:t.start=st)(R:t.fin=fi)(V:n=m)(hs:1<=s/\s<=1000)(Z:0<=now/\now<=1099511627776)(h3:st<=fi)(h4:fi<=1099511627776)(h5:tm<=1099511627776):
  fY t (auK m tm sq) now s=0 ↔ (st:Int)-s<=now/\now<=(fi:Int)+s/\(tm:Int)-now<=s/\now-(tm:Int)<=s:=by
 have J:oO t.start s=st-s:=by rw[h1];exact wJ (by omega) (by omega)
 have K:e9 t.fin s=fi+s:=by rw[R];exact oU (by omega) (by omega)
 have O:xE t.client (auK m tm sq).client=true:=by rw[U,V];unfold xE auK;simp
 have I:=LM (a:=((auK m tm sq).time:Nat)) (b:=now) (s:=s) ⟨by omega,by show((tm:Nat):Int)<=_;omega⟩ Z;have D:((auK m tm sq).time:Int)=tm:=rfl;unfold fY;rw[J,K,O];by_cases c1:now<(st:Int)-s
 ·rw[jP c1];constructor
  ·intro h;cases h
  ·omega
 rw[jQ c1];by_cases c2:(fi:Int)+s<now
 ·rw[jP c2];constructor
  ·intro h;cases h
  ·omega
 rw[jQ c2,jQ (by decide)];by_cases c3:s<kP (auK m tm sq).time now
 ·rw[jP c3];constructor
  ·intro h;cases h
  ·intro h;have:=I.2 ⟨by rw[D];omega,by rw[D];omega⟩;omega
 ·rw[jQ c3];have:=I.1 (by omega);rw[D] at this;constructor
  ·intro _;omega
  ·intro _;rfl
theorem LN(t:TkD)(a:AuD)(now s:Int):fY t a now s≠10:=by
 unfold fY;split <;> (try split) <;> (try split) <;> (try split) <;> decide
theorem nQ{m tm sq:Nat}{s:Int}(hs:1<=s/\s<=1000)(D:tm<=1099511627776):(auE (auK m tm sq) s).2=tm+s/\bG (auE (auK m tm sq) s)=true:=by
 have h:(auE (auK m tm sq) s).2=tm+s:=by
  show e9 (tm:Nat) s=_;exact oU (by omega) (by omega)
 refine⟨h,?_⟩;unfold bG;rw[h];simp;omega
def awB:List Nat:=kdB 0 0 0 100 0 10 0
theorem TC:Byn awB:=I6 (by decide) (by decide) (by decide) (by decide)
theorem TD:awB.length<=5000:=I7 (by decide) (by decide) (by decide) (by decide)
theorem xF:∃ V D J C,pT ⟨gQ 8,0,none⟩ 4=⟨gQ 8,4,none⟩/\nV kyK 5 ⟨gQ 8,4,none⟩ (aG awB)=(6,⟨gQ 8,4,none⟩)/\m7 5 ⟨gQ 8,4,none⟩=(none,V)/\pT V 6=D/\D.now=10/\aR D=D/\D.co=some C/\C.til=9 /\
  nV kyK 5 D (aG awB)=(10,J)/\aR J=J/\(jB J).length=1/\nV kyK 5 J (aG awB)=(8,J):=by
 obtain⟨t,K,O,R,ho⟩:=D8 (n:=0) (c:=0) (st:=0) (fi:=100) (m:=0) (tm:=10) (sq:=0) (by decide) (by decide) (by decide) (by decide);have hl:aR ⟨gQ 8,4,none⟩=⟨gQ 8,4,none⟩:=rfl;have a0:fY t (auK 0 10 0) 4 5=6:=by
  unfold fY;rw[K,O,R]
  decide
 obtain⟨V,D,C,hb,l1,v1,n1,hk,v2,n2,w2,hE,hc,U⟩:=yS 5 4 6;have I:D.now=10:=n2;have hp:fY t (auK 0 10 0) D.now 5=0:=by
  rw[I];exact(D9 K O R rfl (by decide) (by decide) (by decide) (by decide) (by decide)).2 (by decide)
 obtain⟨J,e1,l3,v3,n3,e6⟩:=I5 (key:=kyK) (bs:=aG awB) (t:=t) (a:=auK 0 10 0) w2 hE hc (by rw[U,I];decide) hp ho (nQ (by decide) (by decide)).2 (by rw[I,(nQ (by decide) (by decide)).1];decide);refine⟨V,D,J,C,rfl,?_,hb,hk,I,w2.look,w2.co,by rw[U];decide,e1,l3,by rw[v3];rfl,e6⟩;unfold nV;have Z:rqO kyK (aG awB)=((t,auK 0 10 0),0):=ho;rw[Z];simp only;rw[jQ (by simp),a0,jP (by decide),hl]
end
end Go.Proofs.YtjjlaipkkdncfaaGreatDoor
