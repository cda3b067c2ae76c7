import Derived.Test.YtombncedfleljaaGreatMC35
set_option linter.unusedSimpArgs false
set_option maxRecDepth 100000
set_option maxHeartbeats 40000000
namespace Go.Proofs.YtombncedfleljaaGreat
open Go.RowKit
attribute [local irreducible] wpQuiet wpAnyH
theorem uU(r:RefD)(f:Int)(n:Nat):(dN r f n).2.length≤n:=by
 have:=iB (dC r f n) (none,[]);rw[gW] at this;unfold dN;simpa using this
theorem GY(r:RefD):(cM r).2.1.es.length≤r.sec.length:=by
 unfold cM;split
 ·exact Nat.zero_le _
 split
 ·unfold oI;obtain⟨y,hy,hyl⟩:∃ y,y=(if pL (dN (bL r) 0 (r.sec.length/2)) (dN (bL r) (r.sec.length/2:Nat) (r.sec.length/2)) then dN (bL r) (r.sec.length/2:Nat) (r.sec.length/2) else dN (bL r) 0 (r.sec.length/2))∧y.2.length≤r.sec.length:=by
   refine⟨_,rfl,?_⟩;split
   ·have:=uU (bL r) (r.sec.length/2:Nat) (r.sec.length/2);omega
   ·have:=uU (bL r) 0 (r.sec.length/2);omega
  rw[← hy];unfold iJ;split
  ·exact hyl
  split
  ·exact Nat.zero_le _
  split
  ·exact hyl
  ·exact Nat.zero_le _
 ·exact Nat.zero_le _
theorem RV.nil{w:World}{m:RM}{r:RefD}(h:RK w m r):RV w m r (.slice none 0 0) (.slice none 0 0) rc0:=⟨h,RLK.zero w,(RLK.zero w).sn,(RLK.zero w).ok,fun b e=>by cases e⟩
theorem GZ(v:Value)(A:Option Addr)(k c:Nat)(L:RLog)(E:EL)(t:Int):Tryz.prog.built 63 [(0,.bool true),(1,.agg (rlC v L)),(2,.slice A k c),(3,.int .i64 t)]=some (rcC v (.slice A k c) ⟨true,L,E,t⟩):=by unfold rlC rcC;kernel_rfl
theorem BA(skew now:Int)(m:RM)(r:RefD)(w:World)(h:RK w m r)(hst:r.steps+10≤1000000000)(ho:r.opn.length+10≤50000)(hl:r.sec.length≤500)(hs0:0≤skew)(hs1:skew≤1000000)(hn0:0≤now)(hn1:now≤1000000000000):
  Calls Tryz.prog 75 #[.agg (aA m r),.int .i64 skew,.int .i64 now] w fun e w'=>∃ m' r' v' x' C' c,e = .returned (.tuple #[.agg (aA m' r'),.agg (rcC v' x' C'),.int .i64 c])∧RV w' m' r' v' x' C'∧RTo w w' 4 m r (.slice none 0 0) (.slice none 0 0) m' r' v' x'∧C'.E.length≤r.sec.length∧aK c:=by
 have hlenD:∀ m r,(Tryz.prog.info? 57).map (·.size)=some (aA m r).toList.length:=fun _ _=>bG
 have hlenL:∀ v L,(Tryz.prog.info? 61).map (·.size)=some (rlC v L).toList.length:=fun _ _=>rlI
 obtain⟨w1,hw1⟩:=je (((w.alloc (.cells (aA m r) 57)).alloc (.cells refZ 57)).alloc (.cells rcZ 63));obtain⟨gd,hgd⟩:=je w.heap.size;obtain⟨za,hza⟩:=je (w.heap.size+1);obtain⟨zb,hzb⟩:=je (za+1);have HY1:Hid (YX w w1 m r (.slice none 0 0) (.slice none 0 0) rc0 [(zb,63,rcZ),(za,57,refZ),(gd,57,aA m r)]):=jz (by
  rw[hw1]
  exact(((YX.start (RV.nil h)).new _ _ gd (by simp[hgd])).new _ _ za (by simp[hza])).new _ _ zb (by simp[hzb,hza]))
 obtain⟨r2,hr2⟩:=je ((cM r).1);obtain⟨L2,hL2⟩:=je ((cM r).2.1);obtain⟨c,hcc⟩:=je ((cM r).2.2);have HRB:Hid (Rb 4 r r2∧r2.sec.length=r.sec.length):=jz (by rw[hr2];exact J6 r);have HC64:Hid (aK c):=jz (by rw[hcc];exact AZ r);have hes:L2.es.length≤r.sec.length:=by rw[hL2];exact GY r
 have HRO:=jz (AX m r w1 HY1.rv.rk hst ho);rw[← hr2,← hL2,← hcc] at HRO;have hrd:=HY1.row (gd,57,aA m r) (by repeat constructor);clear hr2 hL2 hcc h;go_enter Tryz.func75,Tryz.ntmps75
 go_upto_region 1 with (first|(refine al 57 refZ rfl rfl cJ ?_)|(refine al 63 rcZ rfl rfl xI ?_))
 rw[← hw1];simp only[← hza,← hzb];simp only[← hgd];clear hw1 hzb hza hgd;go_wp2_with (refine ld 57 _ rfl rfl rfl hrd Tryz.underlying57 rfl (hlenD _ _) ?_)
 refine HRO.mono ?_;rintro e wK ⟨m2,v2,rfl,hkK,hlK,hbK,hsK,hvK⟩;have HYK:Hid (YX w wK m2 r2 v2 (.slice none 0 0) ⟨false,L2,[],0⟩ [(zb,63,rcZ),(za,57,refZ),(gd,57,aA m r)]):=jz (HY1.next hbK ⟨hkK,hlK,(RLK.zero wK).sn,(RLK.zero wK).ok,fun b e=>by cases e⟩ (fun b hb=>by
  rcases hb with hb|hb|hb
  ·exact(hsK b hb).imp .inl id
  ·exact(hvK b hb).elim (fun h=>by cases h) .inr
  ·cases hb))
 have HSB:Hid (∀ b,b∈aL m2 r2∨v2.ownBlock=some b→bF m r (.slice none 0 0) (.slice none 0 0) b∨w.heap.size≤b):=jz (fun b hb=>by
  have h1:=HY1.bx.be.size
  rcases hb with hb|hb
  ·exact(hsK b hb).imp .inl (fun h=>by omega)
  ·exact(hvK b hb).elim (fun h=>by cases h) (fun h=>.inr (by omega)))
 obtain⟨wA,hwA⟩:∃ wA,wK.alloc (.cells rlZ 61)=wA:=⟨_,rfl⟩;obtain⟨gl,hgl⟩:∃ g,wK.heap.size=g:=⟨_,rfl⟩;have HYA:Hid (YX w wA m2 r2 v2 (.slice none 0 0) ⟨false,L2,[],0⟩ [(gl,61,rlZ),(zb,63,rcZ),(za,57,refZ),(gd,57,aA m r)]):=jz (by rw[← hwA];exact HYK.new _ _ gl hgl);have HD1:Hid ((aA m2 r2).all (·.oneCell')=true):=jz (aR hkK);have HL1:Hid ((rlC v2 L2).all (·.oneCell')=true):=jz (dB hlK);have HBD:=jz (HYA.bx.b (gd,57,aA m r) (by repeat constructor));have hsD:(aA m r).size=(aA m2 r2).size:=rfl;have hsL:rlZ.size=(rlC v2 L2).size:=rfl;clear hbK hkK hlK hsK hvK HYK HY1 HRO hrd;go_upto_region 2 with (first
  | (refine al 61 rlZ rfl rfl jY ?_;rw[hwA,hgl])
  | (refine bC 57 (.tmp 3) (.tmp 14) rfl rfl rfl rfl HBD.out bG hsD HD1.out ?_;intro w5 hB5 hb5 ho5 hs5;have HY5:Hid (YX w w5 m2 r2 v2 (.slice none 0 0) ⟨false,L2,[],0⟩ [(gl,61,rlZ),(zb,63,rcZ),(za,57,refZ),(gd,57,aA m2 r2)]):=jz (YX.put (l1:=[_,_,_]) HYA.out _ hB5 (eF hb5 ho5));have HBL:=jz (HY5.bx.b (gl,61,rlZ) (by repeat constructor));clear hB5 hb5 ho5 hs5)
  | (refine bC 61 (.tmp 9) (.tmp 15) rfl rfl rfl rfl HBL.out rlI hsL HL1.out ?_;intro w6 hB6 hb6 ho6 hs6;have HY6:Hid (YX w w6 m2 r2 v2 (.slice none 0 0) ⟨false,L2,[],0⟩ [(gl,61,rlC v2 L2),(zb,63,rcZ),(za,57,refZ),(gd,57,aA m2 r2)]):=jz (YX.put (l1:=[]) HY5.out _ hB6 (eF hb6 ho6));clear hB6 hb6 ho6 hs6))
 clear hwA hgl HYA HY5 HBD HBL HL1 hsD hsL;rcases jb (c == 0) with hc0|hc0
 ·go_upto_region 4 with fail
  obtain⟨wS,hwS⟩:=je w6.drew;have HYS:=jz (HY6.keep (W2:=wS) (by rw[hwS];exact(Below.refl _ _).drew));refine kZ (n:=14) (fun W=>∃ x C cA cB,YX w W m2 r2 v2 x C [(gl,61,rlC v2 L2),(zb,63,cB),(za,57,cA),(gd,57,aA m2 r2)]) (by rw[← hwS];exact⟨_,_,_,_,HYS.out⟩) (h:=fun hH=>?_);rw[← hwS] at hH ⊢;clear hwS;refine kL 0 (some 22) (cs:=(aA m2 r2).toList) (fun _ hX=>by obtain⟨_,_,_,_,h⟩:=hX;exact h.row (gd,57,aA m2 r2) (by repeat constructor)) ((rfl:_=5)) (h:=?_);simp only[jq];refine kL 1 (some 23) (cs:=(rlC v2 L2).toList) (fun _ hX=>by obtain⟨_,_,_,_,h⟩:=hX;exact h.row (gl,61,rlC v2 L2) (by repeat constructor)) ((rfl:_=6)) (h:=?_);simp only[jq];refine kT 2 (some 24) (.pointer (some ⟨gl,4,none⟩)) (h:=?_);simp only[jq];refine kC 3 (some 25) (v:=v2) (fun _ hX=>by obtain⟨_,_,_,_,h⟩:=hX;exact h.bx.b (gl,61,rlC v2 L2) (by repeat constructor) |>.cell 4 |>.trans rfl) (h:=?_);simp only[jq];refine kM 5 (some 27) (.int .i64 now) (h:=?_);simp only[jq];refine kM 7 (some 29) (.int .i64 now) (h:=?_);simp only[jq];refine kM 8 (some 30) (.int .i64 skew) (h:=?_);simp only[jq];refine kT 9 (some 31) (.int .i64 (now+skew)) (hy:=fun W hW=>by unfold execOp;go_simp;exact IntWalk.i64_in _ (by omega)) (h:=?_);simp only[jq];refine kF 4 (some 26) ((AY v2 L2.es wS HYS.rv.rl.sn HYS.rv.rl.ok (by omega)).mono ?_);rintro e wO ⟨vO,rfl,hsO,hbO,hlO⟩;have HYO:=jz (HYS.keep hbO);have HSO:=jz hsO;clear hsO;refine⟨_,rfl,⟨_,_,_,_,HYS.keep hbO⟩,fun hH=>?_⟩;simp only[jq];refine kF 6 (some 28) ((nM vO (bN L2.es) now wO HSO.out (oO L2.es HYO.rv.rl.ok) (by have:=oN L2.es;omega)).mono ?_);rintro e wL ⟨vL,rfl,hoL,hbL⟩;obtain⟨AL,cL,rfl,_⟩:=id (Sn.own hoL);have HYL:Hid (YX w wL m2 r2 v2 (.slice AL (aE (bN L2.es) now).length cL) ⟨true,L2,aE (bN L2.es) now,now+skew⟩ [(gl,61,rlC v2 L2),(zb,63,rcZ),(za,57,refZ),(gd,57,aA m2 r2)]):=jz (HYO.next hbL ⟨HYO.rv.rk.keep hbL,HYO.rv.rl.keep hbL,Sn.own hoL,(fun p hp=>oO L2.es HYO.rv.rl.ok p (List.mem_filter.1 hp).1),fun b e=>(hoL.lt b e).2⟩ (fun b hb=>by
   rcases hb with hb|hb|hb
   ·exact .inl (.inl hb)
   ·exact .inl (.inr (.inl hb))
   ·exact .inr (hoL.lt b hb).1))
  have HLX:Hid (∀ b,(Value.slice AL (aE (bN L2.es) now).length cL).ownBlock=some b→w.heap.size≤b):=jz (fun b e=>Nat.le_trans HYO.bx.be.size (hoL.lt b e).1);refine⟨_,rfl,⟨_,_,_,_,HYO.keep hbL⟩,fun hH=>?_⟩;simp only[jq];refine kB 10 (some 32) (GZ v2 AL (aE (bN L2.es) now).length cL L2 (aE (bN L2.es) now) (now+skew)) (h:=?_);simp only[jq];have HOA:=jz (dF HYL.rv.rk);have HOB:=jz (eH HYL.rv);have HZ1:Hid (YX w (wL.setCells za 0 (aA m2 r2).toList) m2 r2 v2 (.slice AL (aE (bN L2.es) now).length cL) ⟨true,L2,aE (bN L2.es) now,now+skew⟩ [(gl,61,rlC v2 L2),(zb,63,rcZ),(za,57,(aA m2 r2).toList.toArray),(gd,57,aA m2 r2)]):=jz (YX.all (l1:=[_,_]) HYL.out _ rfl);refine kR 11 none (cs:=(aA m2 r2).toList) (aF (HYL.bx.b (za,57,refZ) (by repeat constructor)) rfl) (rfl:_=5) HOA.out ⟨_,_,_,_,HZ1.out⟩ (h:=?_);simp only[jq];obtain⟨wk1,hwk1⟩:=je (wL.setCells za 0 (aA m2 r2).toList);rw[← hwk1] at HZ1 ⊢;clear hwk1;have hH1:∃ x C cA cB,YX w wk1 m2 r2 v2 x C [(gl,61,rlC v2 L2),(zb,63,cB),(za,57,cA),(gd,57,aA m2 r2)]:=⟨_,_,_,_,HZ1.out⟩;have HZ2:Hid (YX w (wk1.setCells zb 0 (rcC v2 (.slice AL (aE (bN L2.es) now).length cL) ⟨true,L2,aE (bN L2.es) now,now+skew⟩).toList) m2 r2 v2 (.slice AL (aE (bN L2.es) now).length cL) ⟨true,L2,aE (bN L2.es) now,now+skew⟩ [(gl,61,rlC v2 L2),(zb,63,(rcC v2 (.slice AL (aE (bN L2.es) now).length cL) ⟨true,L2,aE (bN L2.es) now,now+skew⟩).toList.toArray),(za,57,(aA m2 r2).toList.toArray),(gd,57,aA m2 r2)]):=jz (YX.all (l1:=[_]) HZ1.out _ rfl);refine kR 12 none (cs:=(rcC v2 (.slice AL (aE (bN L2.es) now).length cL) ⟨true,L2,aE (bN L2.es) now,now+skew⟩).toList) (aF (HZ1.bx.b (zb,63,rcZ) (by repeat constructor)) rfl) (rfl:_=9) HOB.out ⟨_,_,_,_,HZ2.out⟩ (h:=?_);simp only[jq];obtain⟨wk2,hwk2⟩:=je (wk1.setCells zb 0 (rcC v2 (.slice AL (aE (bN L2.es) now).length cL) ⟨true,L2,aE (bN L2.es) now,now+skew⟩).toList);rw[← hwk2] at HZ2 ⊢;clear hwk2;have hH2:∃ x C cA cB,YX w wk2 m2 r2 v2 x C [(gl,61,rlC v2 L2),(zb,63,cB),(za,57,cA),(gd,57,aA m2 r2)]:=⟨_,_,_,_,HZ2.out⟩;refine kT 13 (some 8) (.int .i64 0) (h:=?_);simp only[jq];refine kE (h:=?_);go_wp2_with fail
  exact bodyPost_ret (aT rfl _ rfl (HZ2.row (za,57,(aA m2 r2).toList.toArray) (by repeat constructor)) Tryz.underlying57 rfl bG rfl (HZ2.row (zb,63,(rcC v2 (.slice AL (aE (bN L2.es) now).length cL) ⟨true,L2,aE (bN L2.es) now,now+skew⟩).toList.toArray) (by simp)) Tryz.underlying63 rfl rcI) rfl ⟨m2,r2,v2,(.slice AL (aE (bN L2.es) now).length cL),⟨true,L2,aE (bN L2.es) now,now+skew⟩,0,rfl,HZ2.rv,⟨HZ2.bx.be,(fun b hb=>by
   rcases hb with hb|hb|hb
   ·exact HSB.out b (.inl hb)
   ·exact HSB.out b (.inr hb)
   ·exact .inr (HLX.out b hb)),HRB.out.1,HRB.out.2⟩,by have:=eX (bN L2.es) now;have:=oN L2.es;show(aE (bN L2.es) now).length≤_;omega,⟨by decide,by decide⟩⟩
 ·have hrd:=HY6.row (gd,57,aA m2 r2) (by repeat constructor);have HBA:=jz (HY6.bx.b (za,57,refZ) (by repeat constructor));have hsA:refZ.size=(aA m2 r2).size:=rfl;have hsB:rcZ.size=rcZ.size:=rfl;have hb0:=zC;have h1Z:rcZ.all (·.oneCell')=true:=by rw[← MB];exact xJ (RV.nil HY6.rv.rk)
  go_wp2_with (first
   | (refine ld 57 _ rfl rfl rfl hrd Tryz.underlying57 rfl (hlenD _ _) ?_)
   | (refine bld 63 _ rfl rfl rfl zC ?_)
   | (refine bC 57 (.tmp 6) (.tmp 19) rfl rfl rfl rfl HBA.out bG hsA HD1.out ?_;intro w7 hB7 hb7 ho7 hs7;have HY7:Hid (YX w w7 m2 r2 v2 (.slice none 0 0) ⟨false,L2,[],0⟩ [(gl,61,rlC v2 L2),(zb,63,rcZ),(za,57,aA m2 r2),(gd,57,aA m2 r2)]):=jz (YX.put (l1:=[_,_]) HY6.out _ hB7 (eF hb7 ho7));have HBB:=jz (HY7.bx.b (zb,63,rcZ) (by repeat constructor));clear hB7 hb7 ho7 hs7)
   | (refine bC 63 (.tmp 7) (.tmp 20) rfl rfl rfl rfl HBB.out rcI hsB h1Z ?_;intro w8 hB8 hb8 ho8 hs8;have HY8:Hid (YX w w8 m2 r2 v2 (.slice none 0 0) ⟨false,L2,[],0⟩ [(gl,61,rlC v2 L2),(zb,63,rcZ),(za,57,aA m2 r2),(gd,57,aA m2 r2)]):=jz (YX.put (l1:=[_]) HY7.out _ hB8 (eF hb8 ho8));clear hB8 hb8 ho8 hs8))
  exact bodyPost_ret (aT rfl _ rfl (HY8.row (za,57,aA m2 r2) (by repeat constructor)) Tryz.underlying57 rfl bG rfl (HY8.row (zb,63,rcZ) (by repeat constructor)) Tryz.underlying63 rfl rcI) rfl ⟨m2,r2,.slice none 0 0,.slice none 0 0,rc0,c,rfl,RV.nil HY8.rv.rk,⟨HY8.bx.be,(fun b hb=>by
   rcases hb with hb|hb|hb
   ·exact HSB.out b (.inl hb)
   ·cases hb
   ·cases hb),HRB.out.1,HRB.out.2⟩,Nat.zero_le _,HC64.out⟩
end Go.Proofs.YtombncedfleljaaGreat
