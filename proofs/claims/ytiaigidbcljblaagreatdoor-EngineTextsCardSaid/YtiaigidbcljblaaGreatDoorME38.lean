import Derived.Test.YtiaigidbcljblaaGreatDoorME37
import Derived.Test.YtiaigidbcljblaaGreatDoorME29
import Derived.Test.YtiaigidbcljblaaGreatDoorME31
import Derived.Test.YtiaigidbcljblaaGreatDoorME36
import Derived.Test.YtiaigidbcljblaaGreatDoorME33
set_option linter.unusedVariables false
set_option linter.unusedSimpArgs false
set_option maxRecDepth 100000
set_option maxHeartbeats 40000000
namespace Go.Proofs.YtiaigidbcljblaaGreatDoor
section
open Go.RowKit
attribute [local irreducible] wpQuiet wpAnyH
def attZ(gv:Nat)(bv:Value):Array Value:=(attC gv bv tkZ.toList auZ.toList).toArray
theorem builtAtt(gv:Nat)(A:Option Addr)(n cap:Nat):Tryz.prog.built 209 [(0,.pointer (some ⟨gv,0,none⟩)),(1,.slice A n cap)]=some (attZ gv (.slice A n cap)):=by unfold attZ tkZ auZ;kernel_rfl
section
variable {w0 w w' : World} {gv g9 k N : Nat} {key : Nat → Nat} {skew : Int} {s : VS} {X : Nat → Prop}
theorem VE.krange(h:VE w0 w gv g9 k N key skew s X):w.rangeAt gv 0 (arr 16 (c8 key)):=by
 obtain⟨m,cv,F,hg,hv,hx⟩:=h
 exact hv.krange
theorem VE.gvlt(h:VE w0 w gv g9 k N key skew s X):gv<w.heap.size:=by
 obtain⟨m,cv,F,hg,hv,hx⟩:=h
 exact hv.blk.lt
theorem e_look(h:VE w0 w gv g9 k N key skew s X):Calls Tryz.prog 77 #[.pointer (some ⟨gv,0,none⟩)] w fun e w'=>e = .returned (.tuple #[])∧VE w0 w' gv g9 k N key skew (lookS s) X∧XT X w w':=by
 obtain⟨m,cv,F,hg,hv,hx⟩:=h
 refine(v_look hv).mono ?_
 rintro e w' ⟨rfl,cv',F',h1,h2,_⟩
 exact⟨rfl,VE.of hx hg h1 h2⟩
def BadP(tk au:List Value)(c:Int)(_:World):Prop:=tk=tkZ.toList∧au=auZ.toList∧c=1
theorem open_bad(b:List Int)(A:Option Addr)(n cap:Nat)(hs:Sn w 1 (.slice A n cap) b.length (u8s b))(hb:Bys b)(hl:b.length≤1000000)(hq:(reqB b).2.2=false){ga:Nat}{tk0 au0:List Value}(hB:Blk w ga 209 (attC gv (.slice A n cap) tk0 au0).toArray)(ht0:tk0.length=20)(ha0:au0.length=5)(hk:w.rangeAt gv 0 (arr 16 (c8 key)))(hne:gv≠ga):
  Calls Tryz.prog 104 #[.pointer (some ⟨ga,0,none⟩)] w fun e w'=>e = .returned (.int .i64 1)∧Off ga w w':=by
 have hn:n=b.length:=by
  obtain⟨A',c',e,_⟩:=id hs
  injection e
 subst hn
 refine(a_open (P:=BadP) hB ht0 ha0 hk hne (fun W hW=>?_) (fun tk au c W h=>?_) (fun tk au c W W' h _=>h)).mono ?_
 ·refine(ropen_bad key b A cap W (hs.below hW) hb hl hq).mono ?_
  rintro e W' ⟨rfl,hb2⟩
  exact⟨tkZ.toList,auZ.toList,1,rfl,⟨rfl,rfl,rfl⟩,hb2⟩
 ·obtain⟨rfl,rfl,rfl⟩:=h
  exact⟨by rw[Array.length_toList];exact tkZ_size,rfl,fun u hu=>Array.all_eq_true_iff_forall_mem.1 tkZ_one u (by simpa using hu),fun u hu=>Array.all_eq_true_iff_forall_mem.1 auZ_one u (by simpa using hu)⟩
 ·rintro e w' ⟨tk,au,c,rfl,⟨_,_,rfl⟩,_,ho⟩
  exact⟨rfl,ho⟩
theorem e_verify_bad(b:List Int)(A:Option Addr)(n cap:Nat)(hs:Sn w 1 (.slice A n cap) b.length (u8s b))(hb:Bys b)(hl:b.length≤1000000)(hq:(reqB b).2.2=false)(h:VE w0 w gv g9 k N key skew s X):
  Calls Tryz.prog 70 #[.pointer (some ⟨gv,0,none⟩),.slice A n cap] w fun e w'=>e = .returned (.int .i64 1)∧VE w0 w' gv g9 k N key skew (lookS s) X∧XT X w w':=by
 have hmf:∀(fn:Fn) (first cap:Array Value) (w:World),(Instr.makeFunc fn first cap).run Tryz.prog w = .ok (.func fn first cap) w:=fun _ _ _ _=>rfl
 have H:=Lib.hid h
 have HLT:=Lib.hid h.lt
 have HLO:=Lib.hid h.lo
 have HBT:=Lib.hid (builtAtt gv A n cap)
 have HOB:=Lib.hid (fun(W:World) (hs:Sn W 1 (.slice A n cap) b.length (u8s b)) (ga:Nat) (hB:Blk W ga 209 (attZ gv (.slice A n cap))) (hk:W.rangeAt gv 0 (arr 16 (c8 key))) (hne:gv≠ga)=>open_bad b A n cap hs hb hl hq hB (by rw[Array.length_toList];exact tkZ_size) rfl hk hne)
 have HS:=Lib.hid hs
 clear h hs hb hl hq
 go_enter Tryz.func70,Tryz.ntmps70
 go_wp2_with fail
 go_step3
 go_upto_region 5 with (refine bldC 209 _ rfl rfl rfl HBT.out ?_)
 go_step3
 obtain⟨ga,hga⟩:∃ g,g=w.heap.size:=⟨_,rfl⟩
 obtain⟨w2,hw2⟩:∃ W,W=w.alloc (.cells (attZ gv (.slice A n cap)) 209):=⟨_,rfl⟩
 have HB2:Hid (Below w.heap.size w w2):=Lib.hid (by rw[hw2];exact bel1 _ _)
 have HA2:Hid (Blk w2 ga 209 (attZ gv (.slice A n cap))):=Lib.hid (by rw[hw2,hga];exact Blk.new _ _ _)
 have HGA:Hid (w.heap.size≤ga):=Lib.hid (by omega)
 rw[← hw2,← hga]
 clear hw2 hga
 go_wp2_with fail
 obtain⟨gf,hgf⟩:∃ g,g=w2.heap.size:=⟨_,rfl⟩
 obtain⟨w3,hw3⟩:∃ W,W=w2.alloc (.cells #[.func (.func 104) #[.pointer (some ⟨ga,0,none⟩)] #[],.func (.func 105) #[.pointer (some ⟨ga,0,none⟩)] #[],.func (.func 106) #[.pointer (some ⟨ga,0,none⟩)] #[],.func (.func 107) #[.pointer (some ⟨ga,0,none⟩)] #[]] 210):=⟨_,rfl⟩
 have HB3:Hid (Below w2.heap.size w2 w3):=Lib.hid (by rw[hw3];exact bel1 _ _)
 have hc0:w3.cell? ⟨gf,0,none⟩=some (.func (.func 104) #[.pointer (some ⟨ga,0,none⟩)] #[]):=by rw[hw3,hgf];exact(Blk.new w2 _ _).cell 0
 rw[← hw3,← hgf]
 clear hw3 hgf
 have HB23:=Lib.hid (bstep HB2.out HB3.out)
 have HV3:=Lib.hid (H.out.xw HB23.out)
 have HO1:=Lib.hid (HOB.out w3 (HS.below HB23.out) ga (HA2.keep HB3.out) HV3.krange (by have:=H.out.gvlt;have:=HGA.out;omega))
 refine wp_loop_rounds 1 ?_
 rw[rounds_succ]
 go_wp2_with fail
 refine HO1.mono ?_
 rintro e w4 ⟨rfl,ho⟩
 have HV4:=Lib.hid (HV3.off ho (.inr ⟨HGA.out,Nat.lt_of_lt_of_le HA2.lt HB3.size⟩) (Nat.le_trans HLO.out HGA.out))
 have HX4:Hid (XT X w w4):=Lib.hid ⟨Nat.le_trans HB23.size ho.size,fun b hb=>(ho.block b (Nat.lt_of_lt_of_le (HLT.out b hb) HB23.size) (by have:=HLT.out b hb;have:=HGA.out;omega)).trans (HB23.block b (HLT.out b hb))⟩
 have HLK:=Lib.hid (e_look HV4.out)
 clear ho hc0
 go_wp2_with fail
 refine HLK.mono ?_
 rintro e w5 ⟨rfl,hv5,hx5⟩
 have HV5:Hid (VE w0 w5 gv g9 k N key skew (lookS s) X):=Lib.hid (hv5.less (fun b hb=>.inl hb))
 have HX5:Hid (XT X w w5):=Lib.hid (HX4.trans ⟨hx5.size,fun b hb=>hx5.block b (.inl hb)⟩)
 clear hv5 hx5 HLK
 go_wp2_with fail
 rw[Exit.noGoto_ret]
 go_ret
 exact⟨rfl,HV5.out,HX5.out⟩
def VRP(w3:World)(P:List Value→List Value→Int→World→Prop)(v7 v8 v9:Value)(wx:World):Prop:=∃ g7 g8 tk au c,v7 = .pointer (some ⟨g7,0,none⟩)∧v8 = .pointer (some ⟨g8,0,none⟩)∧v9 = .int .i64 c∧P tk au c wx∧Blk wx g7 123 tk.toArray∧Blk wx g8 125 au.toArray∧Below w3.heap.size w3 wx
theorem hne_of{w:World}{g g' t t':Nat}{cs ds:Array Value}(h:Blk w g t cs)(k:Blk w g' t' ds)(hne:t≠t'):g≠g':=fun e=>by
 subst e
 unfold Blk at h k
 rw[h] at k
 injection k with k
 injection k with _ k _
 exact hne k
theorem hset_bel{w3 W:World}{g:Nat}(h:Below w3.heap.size w3 W)(hg:w3.heap.size≤g)(vs:List Value):Below w3.heap.size w3 (W.setCells g 0 vs):=h.trans ((off_setCells g vs 0 (Off.refl g W)).below hg h.size)
theorem Blk.offSet{W:World}{g g' t:Nat}{cs:Array Value}(hne:g≠g')(vs:List Value)(h:Blk W g' t cs):Blk (W.setCells g 0 vs) g' t cs:=(off_setCells g vs 0 (Off.refl g W)).blk h (Ne.symm hne)
theorem blk_all{W:World}{g t:Nat}{old:Array Value}(new:List Value)(h:Blk W g t old)(hl:old.size=new.length):Blk (W.setCells g 0 new) g t new.toArray:=by
 have:=blk_mid new [] old.toList [] (w:=W) (g:=g) (t:=t) (by rw[Array.length_toList];exact hl) (by simpa using h)
 simpa using this
theorem vrp_end{w3 W:World}{P:List Value→List Value→Int→World→Prop}{g7 g8:Nat}{tk au:List Value}{c:Int}(hT:Blk W g7 123 tkZ)(hA:Blk W g8 125 auZ)(hn:g7≠g8)(hb:Below w3.heap.size w3 W)(hp:P tk au c W)(q1:tk.length=20)(q2:au.length=5)(l7:w3.heap.size≤g7)(l8:w3.heap.size≤g8)
  (hPO:∀ W W',P tk au c W→P tk au c W'):VRP w3 P (.pointer (some ⟨g7,0,none⟩)) (.pointer (some ⟨g8,0,none⟩)) (.int .i64 c) ((W.setCells g7 0 tk).setCells g8 0 au):=
 ⟨g7,g8,tk,au,c,rfl,rfl,rfl,hPO _ _ hp,Blk.offSet (Ne.symm hn) au (blk_all tk hT (by rw[tkZ_size,q1])),blk_all au (Blk.offSet hn tk hA) (by rw[q2];rfl),hset_bel (hset_bel hb l7 tk) l8 au⟩
theorem badP_ok(tk au:List Value)(c:Int)(W:World)(h:BadP tk au c W):tk.length=20∧au.length=5∧(∀ u∈tk,u.oneCell'=true)∧(∀ u∈au,u.oneCell'=true):=by
 obtain⟨rfl,rfl,rfl⟩:=h
 exact⟨by rw[Array.length_toList];exact tkZ_size,rfl,fun u hu=>Array.all_eq_true_iff_forall_mem.1 tkZ_one u (by simpa using hu),fun u hu=>Array.all_eq_true_iff_forall_mem.1 auZ_one u (by simpa using hu)⟩
theorem m_verify_bad{gm:Nat}{B:Option Addr}{cb cl dl ca:Nat}{kd nn:Int}(b:List Int)(A:Option Addr)(hs0:Sn w0 1 (.slice A dl ca) b.length (u8s b))(hb:Bys b)(hl:b.length≤1000000)(hq:(reqB b).2.2=false)(h:VE w0 w gv g9 k N key skew s X)(hm:Blk w gm 106 (machC key g9 gv))(hX:X gm):
  Calls Tryz.prog 43 #[.pointer (some ⟨gm,0,none⟩),.agg #[.int .i64 kd,.int .i64 nn,.slice A dl ca,.slice B cl cb]] w (MP w0 w gv g9 k N key skew X ((1,z32L),lookS s)):=by
 have hs:=hs0.below h.bel
 have HS0:=Lib.hid hs0
 have H:=Lib.hid h
 have HM:=Lib.hid hm
 have HS:=Lib.hid hs
 have HBQ:=Lib.hid (And.intro hb (And.intro hl hq))
 have HLT:=Lib.hid h.lt
 have HLO:=Lib.hid h.lo
 have hdl:dl=b.length:=by
  obtain⟨A',c',e,_⟩:=id hs
  injection e
 have HDL:=Lib.hid hdl
 clear h hm hs hs0 hb hl hq hdl
 go_enter Tryz.func43,Tryz.ntmps43
 go_upto_region 1 with (refine al 26 dZ rfl rfl zeroDig ?_)
 obtain⟨gb,hgb⟩:∃ g,g=w.heap.size:=⟨_,rfl⟩
 obtain⟨w2,hw2⟩:∃ W,W=(w.alloc (.cells #[.int .i64 kd,.int .i64 nn,.slice A dl ca,.slice B cl cb] 71)).alloc (.cells dZ 26):=⟨_,rfl⟩
 have HB2:Hid (Below w.heap.size w w2):=Lib.hid (by rw[hw2];exact bstep (bel1 _ _) (bel1 _ _))
 have HO:Hid (Blk w2 gb 71 #[.int .i64 kd,.int .i64 nn,.slice A dl ca,.slice B cl cb]):=Lib.hid (by rw[hw2,hgb];exact(Blk.new _ _ _).alloc _)
 have HD:Hid (Blk w2 (gb+1) 26 dZ):=Lib.hid (by rw[hw2,hgb];exact Blk.newAt _ _ _ _ (by simp))
 have HGB:Hid (w.heap.size≤gb+1∧gb+1<w2.heap.size):=Lib.hid ⟨by omega,by rw[hw2,hgb];simp⟩
 have HGO:Hid (w.heap.size≤gb∧gb<w2.heap.size):=Lib.hid ⟨by omega,by rw[hw2,hgb];simp;omega⟩
 rw[← hw2]
 simp only[World.size_alloc,← hgb]
 clear hw2 hgb
 have HV2:=Lib.hid (H.out.xw HB2.out)
 obtain⟨_,c17,_⟩:=mach_cells (HM.keep HB2.out)
 have o2:=HO.cell 2
 simp only[List.getElem?_toArray,List.getElem?_cons_succ,List.getElem?_cons_zero] at o2
 have HT:=Lib.hid (e_verify_bad b A dl ca ((HS.below HB2.out).below (Below.refl _ _).drew) HBQ.out.1 HBQ.out.2.1 HBQ.out.2.2 HV2.drew)
 go_still_tail 6,(by kernel_rfl)
 change wpList _ _ _ _ _ w2.drew
 obtain⟨wD,hwD⟩:∃ W,W=w2.drew:=⟨_,rfl⟩
 rw[← hwD] at HT ⊢
 have HXD:Hid (XT (XW X w w2) w2 wD):=Lib.hid (by rw[hwD];exact XT.of_below HV2.lt (Below.refl _ _).drew)
 clear hwD c17 o2
 go_wp2_with fail
 refine HT.mono ?_
 rintro e w3 ⟨rfl,hv3,hx3⟩
 have HV3:=Lib.hid hv3
 have HX3:=Lib.hid (HXD.trans hx3)
 have HD3:Hid (Blk w3 (gb+1) 26 dZ):=Lib.hid ((HX3.block (gb+1) (.inr HGB.out)).trans HD.out)
 have HO3:Hid (Blk w3 gb 71 #[.int .i64 kd,.int .i64 nn,.slice A dl ca,.slice B cl cb]):=Lib.hid ((HX3.block gb (.inr HGO.out)).trans HO.out)
 have HM3:Hid (Blk w3 gm 106 (machC key g9 gv)):=Lib.hid ((HX3.block gm (.inl hX)).trans (HM.keep HB2.out))
 clear hv3 hx3 HT
 obtain⟨_,_,hk3⟩:=mach_cells HM3.out
 have o2:=HO3.cell 2
 simp only[List.getElem?_toArray,List.getElem?_cons_succ,List.getElem?_cons_zero] at o2
 have HSX:=Lib.hid (HS0.below HV3.bel)
 have HPL:=Lib.hid badP_ok
 have HPS:Hid (∀ tk au c (W W':World),BadP tk au c W→Below W.heap.size W W'→BadP tk au c W'):=Lib.hid (fun _ _ _ _ _ h _=>h)
 have HK3:=Lib.hid hk3
 have HO2:=Lib.hid o2
 have HRO:Hid (∀ W,Below w3.heap.size w3 W→Calls Tryz.prog 71 #[.agg (arr 16 (c8 key)).toArray,.slice A dl ca] W fun e W'=>∃ tk au c,e = .returned (.tuple #[.agg tk.toArray,.agg au.toArray,.int .i64 c])∧BadP tk au c W'∧Below W.heap.size W W'):=Lib.hid (fun W hW=>by
  have h1:Sn W 1 (.slice A b.length ca) b.length (u8s b):=by
   have h2:=HSX.below hW
   rw[HDL.out] at h2
   exact h2
  rw[HDL.out]
  refine(ropen_bad key b A ca W h1 HBQ.out.1 HBQ.out.2.1 HBQ.out.2.2).mono ?_
  rintro e W' ⟨rfl,hb2⟩
  exact⟨tkZ.toList,auZ.toList,1,rfl,⟨rfl,rfl,rfl⟩,hb2⟩)
 clear hk3 o2
 go_upto_region 2 with fail
 go_cut [7,8,9] from 19 to 29 (fun v7 v8 v9 wx=>VRP w3 BadP v7 v8 v9 wx)
 case first=>
  -- region 2
  refine kZ (n:=16) (fun W=>Below w3.heap.size w3 W) ((Below.refl _ _).drew) (h:=fun hH=>?_)
  refine kM 0 (some 20) (.pointer (some ⟨gm,0,none⟩)) (h:=?_)
  simp only[p1,p2,p3,p4,p5]
  refine kT 1 (some 21) (.pointer (some ⟨gm,0,none⟩)) (h:=?_)
  simp only[p1,p2,p3,p4,p5]
  refine kT 2 (some 22) (.pointer (some ⟨gm,0,none⟩)) (h:=?_)
  simp only[p1,p2,p3,p4,p5]
  refine kL 3 (some 23) (cs:=arr 16 (c8 key)) (fun W hX j u hj=>Below.cell' hX (HK3.out j u hj)) (arr_length _ _) (h:=?_)
  simp only[p1,p2,p3,p4,p5]
  refine kT 4 (some 24) (.pointer (some ⟨gb,2,none⟩)) (h:=?_)
  simp only[p1,p2,p3,p4,p5]
  refine kC 5 (some 25) (v:=.slice A dl ca) (fun W hX=>Below.cell' hX HO2.out) (h:=?_)
  simp only[p1,p2,p3,p4,p5]
  refine wpAnyH_ready (rs:=[6,11,12]) (by kernel_rfl) (by simp) (rF 6 (some 26) ((HRO.out _ hH).mono ?_) (rA 11 (some 7) tkZ zeroTk (bstep hH (bel1 _ _)) ?_ (rA 12 (some 8) auZ zeroAu (bstep hH (bel1 _ _)) ?_ AllReadyH.nil)))
  ·rintro e w4 ⟨tk,au,c,rfl,hp,hb⟩
   obtain⟨q1,q2,q3,q4⟩:=HPL.out _ _ _ _ hp
   have hH4:=bstep hH hb
   refine⟨_,rfl,hH4,fun _=>?_⟩
   simp only[p1,p2,p3,p4,p5]
   refine kM 7 (some 19) (.tuple #[.agg tk.toArray,.agg au.toArray,.int .i64 c]) (h:=?_)
   simp only[p1,p2,p3,p4,p5]
   refine kT 8 (some 27) (.agg tk.toArray) (h:=?_)
   simp only[p1,p2,p3,p4,p5]
   refine kT 9 (some 28) (.agg au.toArray) (h:=?_)
   simp only[p1,p2,p3,p4,p5]
   refine kT 10 (some 29) (.int .i64 c) (h:=?_)
   simp only[p1,p2,p3,p4,p5]
   refine wpAnyH_ready (rs:=[11,12]) (by kernel_rfl) (by simp) (rA 11 (some 7) tkZ zeroTk (bstep hH4 (bel1 _ _)) ?_ (rA 12 (some 8) auZ zeroAu (bstep hH4 (bel1 _ _)) ?_ AllReadyH.nil))
   ·simp only[p1,p2,p3,p4,p5]
    obtain⟨g7,hg7⟩:∃ g,g=w4.heap.size:=⟨_,rfl⟩
    obtain⟨w5,hw5⟩:∃ W,W=w4.alloc (.cells tkZ 123):=⟨_,rfl⟩
    have hT_5:Blk w5 g7 123 tkZ:=by rw[hw5,hg7];exact Blk.new _ _ _
    have hb5:Below w4.heap.size w4 w5:=by rw[hw5];exact bel1 _ _
    have hH5:=bstep hH4 hb5
    have hLg7:w3.heap.size≤g7:=by rw[hg7];exact hH4.size
    rw[← hw5,← hg7]
    have hpx:=HPS.out _ _ _ _ _ hp hb5
    clear hw5 hg7
    refine wpAnyH_ready (rs:=[12]) (by kernel_rfl) (by simp) (rA 12 (some 8) auZ zeroAu (bstep hH5 (bel1 _ _)) ?_ AllReadyH.nil)
    simp only[p1,p2,p3,p4,p5]
    obtain⟨g8,hg8⟩:∃ g,g=w5.heap.size:=⟨_,rfl⟩
    obtain⟨w6,hw6⟩:∃ W,W=w5.alloc (.cells auZ 125):=⟨_,rfl⟩
    have hA_6:Blk w6 g8 125 auZ:=by rw[hw6,hg8];exact Blk.new _ _ _
    have hb6:Below w5.heap.size w5 w6:=by rw[hw6];exact bel1 _ _
    have hH6:=bstep hH5 hb6
    have hLg8:w3.heap.size≤g8:=by rw[hg8];exact hH5.size
    rw[← hw6,← hg8]
    have hT_6:=hT_5.keep hb6
    have hpxx:=HPS.out _ _ _ _ _ hpx hb6
    clear hw6 hg8
    have hn78:g7≠g8:=hne_of hT_6 hA_6 (by decide)
    have hs3:=hset_bel hH6 hLg7 tk
    refine kR 13 none (n:=20) (cs:=tk) (there_att (cs:=tkZ.toList) hT_6 (by rw[Array.length_toList,tkZ_size];omega)) q1 q3 hs3 (h:=?_)
    simp only[p1,p2,p3,p4,p5]
    have hA2:=Blk.offSet hn78 tk hA_6
    have hs4:=hset_bel hs3 hLg8 au
    refine kR 14 none (n:=5) (cs:=au) (there_att (cs:=auZ.toList) hA2 (by rw[Array.length_toList];exact Nat.le_refl _)) q2 q4 hs4 (h:=?_)
    simp only[p1,p2,p3,p4,p5]
    refine kT 15 (some 9) (.int .i64 c) (h:=?_)
    simp only[p1,p2,p3,p4,p5]
    refine kE (h:=?_)
    have hfin:=vrp_end (P:=BadP) hT_6 hA_6 hn78 hH6 hpxx q1 q2 hLg7 hLg8 (fun _ _ h=>h)
    go_wp2_with fail
    go_meet
    exact hfin
   ·simp only[p1,p2,p3,p4,p5]
    obtain⟨g8,hg8⟩:∃ g,g=w4.heap.size:=⟨_,rfl⟩
    obtain⟨w5,hw5⟩:∃ W,W=w4.alloc (.cells auZ 125):=⟨_,rfl⟩
    have hA_5:Blk w5 g8 125 auZ:=by rw[hw5,hg8];exact Blk.new _ _ _
    have hb5:Below w4.heap.size w4 w5:=by rw[hw5];exact bel1 _ _
    have hH5:=bstep hH4 hb5
    have hLg8:w3.heap.size≤g8:=by rw[hg8];exact hH4.size
    rw[← hw5,← hg8]
    have hpx:=HPS.out _ _ _ _ _ hp hb5
    clear hw5 hg8
    refine wpAnyH_ready (rs:=[11]) (by kernel_rfl) (by simp) (rA 11 (some 7) tkZ zeroTk (bstep hH5 (bel1 _ _)) ?_ AllReadyH.nil)
    simp only[p1,p2,p3,p4,p5]
    obtain⟨g7,hg7⟩:∃ g,g=w5.heap.size:=⟨_,rfl⟩
    obtain⟨w6,hw6⟩:∃ W,W=w5.alloc (.cells tkZ 123):=⟨_,rfl⟩
    have hT_6:Blk w6 g7 123 tkZ:=by rw[hw6,hg7];exact Blk.new _ _ _
    have hb6:Below w5.heap.size w5 w6:=by rw[hw6];exact bel1 _ _
    have hH6:=bstep hH5 hb6
    have hLg7:w3.heap.size≤g7:=by rw[hg7];exact hH5.size
    rw[← hw6,← hg7]
    have hA_6:=hA_5.keep hb6
    have hpxx:=HPS.out _ _ _ _ _ hpx hb6
    clear hw6 hg7
    have hn78:g7≠g8:=hne_of hT_6 hA_6 (by decide)
    have hs3:=hset_bel hH6 hLg7 tk
    refine kR 13 none (n:=20) (cs:=tk) (there_att (cs:=tkZ.toList) hT_6 (by rw[Array.length_toList,tkZ_size];omega)) q1 q3 hs3 (h:=?_)
    simp only[p1,p2,p3,p4,p5]
    have hA2:=Blk.offSet hn78 tk hA_6
    have hs4:=hset_bel hs3 hLg8 au
    refine kR 14 none (n:=5) (cs:=au) (there_att (cs:=auZ.toList) hA2 (by rw[Array.length_toList];exact Nat.le_refl _)) q2 q4 hs4 (h:=?_)
    simp only[p1,p2,p3,p4,p5]
    refine kT 15 (some 9) (.int .i64 c) (h:=?_)
    simp only[p1,p2,p3,p4,p5]
    refine kE (h:=?_)
    have hfin:=vrp_end (P:=BadP) hT_6 hA_6 hn78 hH6 hpxx q1 q2 hLg7 hLg8 (fun _ _ h=>h)
    go_wp2_with fail
    go_meet
    exact hfin
  ·simp only[p1,p2,p3,p4,p5]
   obtain⟨g7,hg7⟩:∃ g,g=w3.drew.heap.size:=⟨_,rfl⟩
   obtain⟨w4,hw4⟩:∃ W,W=w3.drew.alloc (.cells tkZ 123):=⟨_,rfl⟩
   have hT_4:Blk w4 g7 123 tkZ:=by rw[hw4,hg7];exact Blk.new _ _ _
   have hb4:Below w3.drew.heap.size w3.drew w4:=by rw[hw4];exact bel1 _ _
   have hH4:=bstep hH hb4
   have hLg7:w3.heap.size≤g7:=by rw[hg7];exact hH.size
   rw[← hw4,← hg7]
   clear hw4 hg7
   refine wpAnyH_ready (rs:=[6,12]) (by kernel_rfl) (by simp) (rF 6 (some 26) ((HRO.out _ hH4).mono ?_) (rA 12 (some 8) auZ zeroAu (bstep hH4 (bel1 _ _)) ?_ AllReadyH.nil))
   ·rintro e w5 ⟨tk,au,c,rfl,hp,hb⟩
    obtain⟨q1,q2,q3,q4⟩:=HPL.out _ _ _ _ hp
    have hH5:=bstep hH4 hb
    refine⟨_,rfl,hH5,fun _=>?_⟩
    simp only[p1,p2,p3,p4,p5]
    have hT_5:=hT_4.keep hb
    refine kM 7 (some 19) (.tuple #[.agg tk.toArray,.agg au.toArray,.int .i64 c]) (h:=?_)
    simp only[p1,p2,p3,p4,p5]
    refine kT 8 (some 27) (.agg tk.toArray) (h:=?_)
    simp only[p1,p2,p3,p4,p5]
    refine kT 9 (some 28) (.agg au.toArray) (h:=?_)
    simp only[p1,p2,p3,p4,p5]
    refine kT 10 (some 29) (.int .i64 c) (h:=?_)
    simp only[p1,p2,p3,p4,p5]
    refine wpAnyH_ready (rs:=[12]) (by kernel_rfl) (by simp) (rA 12 (some 8) auZ zeroAu (bstep hH5 (bel1 _ _)) ?_ AllReadyH.nil)
    simp only[p1,p2,p3,p4,p5]
    obtain⟨g8,hg8⟩:∃ g,g=w5.heap.size:=⟨_,rfl⟩
    obtain⟨w6,hw6⟩:∃ W,W=w5.alloc (.cells auZ 125):=⟨_,rfl⟩
    have hA_6:Blk w6 g8 125 auZ:=by rw[hw6,hg8];exact Blk.new _ _ _
    have hb6:Below w5.heap.size w5 w6:=by rw[hw6];exact bel1 _ _
    have hH6:=bstep hH5 hb6
    have hLg8:w3.heap.size≤g8:=by rw[hg8];exact hH5.size
    rw[← hw6,← hg8]
    have hT_6:=hT_5.keep hb6
    have hpx:=HPS.out _ _ _ _ _ hp hb6
    clear hw6 hg8
    have hn78:g7≠g8:=hne_of hT_6 hA_6 (by decide)
    have hs3:=hset_bel hH6 hLg7 tk
    refine kR 13 none (n:=20) (cs:=tk) (there_att (cs:=tkZ.toList) hT_6 (by rw[Array.length_toList,tkZ_size];omega)) q1 q3 hs3 (h:=?_)
    simp only[p1,p2,p3,p4,p5]
    have hA2:=Blk.offSet hn78 tk hA_6
    have hs4:=hset_bel hs3 hLg8 au
    refine kR 14 none (n:=5) (cs:=au) (there_att (cs:=auZ.toList) hA2 (by rw[Array.length_toList];exact Nat.le_refl _)) q2 q4 hs4 (h:=?_)
    simp only[p1,p2,p3,p4,p5]
    refine kT 15 (some 9) (.int .i64 c) (h:=?_)
    simp only[p1,p2,p3,p4,p5]
    refine kE (h:=?_)
    have hfin:=vrp_end (P:=BadP) hT_6 hA_6 hn78 hH6 hpx q1 q2 hLg7 hLg8 (fun _ _ h=>h)
    go_wp2_with fail
    go_meet
    exact hfin
   ·simp only[p1,p2,p3,p4,p5]
    obtain⟨g8,hg8⟩:∃ g,g=w4.heap.size:=⟨_,rfl⟩
    obtain⟨w5,hw5⟩:∃ W,W=w4.alloc (.cells auZ 125):=⟨_,rfl⟩
    have hA_5:Blk w5 g8 125 auZ:=by rw[hw5,hg8];exact Blk.new _ _ _
    have hb5:Below w4.heap.size w4 w5:=by rw[hw5];exact bel1 _ _
    have hH5:=bstep hH4 hb5
    have hLg8:w3.heap.size≤g8:=by rw[hg8];exact hH4.size
    rw[← hw5,← hg8]
    have hT_5:=hT_4.keep hb5
    clear hw5 hg8
    refine wpAnyH_ready (rs:=[6]) (by kernel_rfl) (by simp) (rF 6 (some 26) ((HRO.out _ hH5).mono ?_) AllReadyH.nil)
    rintro e w6 ⟨tk,au,c,rfl,hp,hb⟩
    obtain⟨q1,q2,q3,q4⟩:=HPL.out _ _ _ _ hp
    have hH6:=bstep hH5 hb
    refine⟨_,rfl,hH6,fun _=>?_⟩
    simp only[p1,p2,p3,p4,p5]
    have hT_6:=hT_5.keep hb
    have hA_6:=hA_5.keep hb
    refine kM 7 (some 19) (.tuple #[.agg tk.toArray,.agg au.toArray,.int .i64 c]) (h:=?_)
    simp only[p1,p2,p3,p4,p5]
    refine kT 8 (some 27) (.agg tk.toArray) (h:=?_)
    simp only[p1,p2,p3,p4,p5]
    refine kT 9 (some 28) (.agg au.toArray) (h:=?_)
    simp only[p1,p2,p3,p4,p5]
    refine kT 10 (some 29) (.int .i64 c) (h:=?_)
    simp only[p1,p2,p3,p4,p5]
    have hn78:g7≠g8:=hne_of hT_6 hA_6 (by decide)
    have hs3:=hset_bel hH6 hLg7 tk
    refine kR 13 none (n:=20) (cs:=tk) (there_att (cs:=tkZ.toList) hT_6 (by rw[Array.length_toList,tkZ_size];omega)) q1 q3 hs3 (h:=?_)
    simp only[p1,p2,p3,p4,p5]
    have hA2:=Blk.offSet hn78 tk hA_6
    have hs4:=hset_bel hs3 hLg8 au
    refine kR 14 none (n:=5) (cs:=au) (there_att (cs:=auZ.toList) hA2 (by rw[Array.length_toList];exact Nat.le_refl _)) q2 q4 hs4 (h:=?_)
    simp only[p1,p2,p3,p4,p5]
    refine kT 15 (some 9) (.int .i64 c) (h:=?_)
    simp only[p1,p2,p3,p4,p5]
    refine kE (h:=?_)
    have hfin:=vrp_end (P:=BadP) hT_6 hA_6 hn78 hH6 hp q1 q2 hLg7 hLg8 (fun _ _ h=>h)
    go_wp2_with fail
    go_meet
    exact hfin
  ·simp only[p1,p2,p3,p4,p5]
   obtain⟨g8,hg8⟩:∃ g,g=w3.drew.heap.size:=⟨_,rfl⟩
   obtain⟨w4,hw4⟩:∃ W,W=w3.drew.alloc (.cells auZ 125):=⟨_,rfl⟩
   have hA_4:Blk w4 g8 125 auZ:=by rw[hw4,hg8];exact Blk.new _ _ _
   have hb4:Below w3.drew.heap.size w3.drew w4:=by rw[hw4];exact bel1 _ _
   have hH4:=bstep hH hb4
   have hLg8:w3.heap.size≤g8:=by rw[hg8];exact hH.size
   rw[← hw4,← hg8]
   clear hw4 hg8
   refine wpAnyH_ready (rs:=[6,11]) (by kernel_rfl) (by simp) (rF 6 (some 26) ((HRO.out _ hH4).mono ?_) (rA 11 (some 7) tkZ zeroTk (bstep hH4 (bel1 _ _)) ?_ AllReadyH.nil))
   ·rintro e w5 ⟨tk,au,c,rfl,hp,hb⟩
    obtain⟨q1,q2,q3,q4⟩:=HPL.out _ _ _ _ hp
    have hH5:=bstep hH4 hb
    refine⟨_,rfl,hH5,fun _=>?_⟩
    simp only[p1,p2,p3,p4,p5]
    have hA_5:=hA_4.keep hb
    refine kM 7 (some 19) (.tuple #[.agg tk.toArray,.agg au.toArray,.int .i64 c]) (h:=?_)
    simp only[p1,p2,p3,p4,p5]
    refine kT 8 (some 27) (.agg tk.toArray) (h:=?_)
    simp only[p1,p2,p3,p4,p5]
    refine kT 9 (some 28) (.agg au.toArray) (h:=?_)
    simp only[p1,p2,p3,p4,p5]
    refine kT 10 (some 29) (.int .i64 c) (h:=?_)
    simp only[p1,p2,p3,p4,p5]
    refine wpAnyH_ready (rs:=[11]) (by kernel_rfl) (by simp) (rA 11 (some 7) tkZ zeroTk (bstep hH5 (bel1 _ _)) ?_ AllReadyH.nil)
    simp only[p1,p2,p3,p4,p5]
    obtain⟨g7,hg7⟩:∃ g,g=w5.heap.size:=⟨_,rfl⟩
    obtain⟨w6,hw6⟩:∃ W,W=w5.alloc (.cells tkZ 123):=⟨_,rfl⟩
    have hT_6:Blk w6 g7 123 tkZ:=by rw[hw6,hg7];exact Blk.new _ _ _
    have hb6:Below w5.heap.size w5 w6:=by rw[hw6];exact bel1 _ _
    have hH6:=bstep hH5 hb6
    have hLg7:w3.heap.size≤g7:=by rw[hg7];exact hH5.size
    rw[← hw6,← hg7]
    have hA_6:=hA_5.keep hb6
    have hpx:=HPS.out _ _ _ _ _ hp hb6
    clear hw6 hg7
    have hn78:g7≠g8:=hne_of hT_6 hA_6 (by decide)
    have hs3:=hset_bel hH6 hLg7 tk
    refine kR 13 none (n:=20) (cs:=tk) (there_att (cs:=tkZ.toList) hT_6 (by rw[Array.length_toList,tkZ_size];omega)) q1 q3 hs3 (h:=?_)
    simp only[p1,p2,p3,p4,p5]
    have hA2:=Blk.offSet hn78 tk hA_6
    have hs4:=hset_bel hs3 hLg8 au
    refine kR 14 none (n:=5) (cs:=au) (there_att (cs:=auZ.toList) hA2 (by rw[Array.length_toList];exact Nat.le_refl _)) q2 q4 hs4 (h:=?_)
    simp only[p1,p2,p3,p4,p5]
    refine kT 15 (some 9) (.int .i64 c) (h:=?_)
    simp only[p1,p2,p3,p4,p5]
    refine kE (h:=?_)
    have hfin:=vrp_end (P:=BadP) hT_6 hA_6 hn78 hH6 hpx q1 q2 hLg7 hLg8 (fun _ _ h=>h)
    go_wp2_with fail
    go_meet
    exact hfin
   ·simp only[p1,p2,p3,p4,p5]
    obtain⟨g7,hg7⟩:∃ g,g=w4.heap.size:=⟨_,rfl⟩
    obtain⟨w5,hw5⟩:∃ W,W=w4.alloc (.cells tkZ 123):=⟨_,rfl⟩
    have hT_5:Blk w5 g7 123 tkZ:=by rw[hw5,hg7];exact Blk.new _ _ _
    have hb5:Below w4.heap.size w4 w5:=by rw[hw5];exact bel1 _ _
    have hH5:=bstep hH4 hb5
    have hLg7:w3.heap.size≤g7:=by rw[hg7];exact hH4.size
    rw[← hw5,← hg7]
    have hA_5:=hA_4.keep hb5
    clear hw5 hg7
    refine wpAnyH_ready (rs:=[6]) (by kernel_rfl) (by simp) (rF 6 (some 26) ((HRO.out _ hH5).mono ?_) AllReadyH.nil)
    rintro e w6 ⟨tk,au,c,rfl,hp,hb⟩
    obtain⟨q1,q2,q3,q4⟩:=HPL.out _ _ _ _ hp
    have hH6:=bstep hH5 hb
    refine⟨_,rfl,hH6,fun _=>?_⟩
    simp only[p1,p2,p3,p4,p5]
    have hA_6:=hA_5.keep hb
    have hT_6:=hT_5.keep hb
    refine kM 7 (some 19) (.tuple #[.agg tk.toArray,.agg au.toArray,.int .i64 c]) (h:=?_)
    simp only[p1,p2,p3,p4,p5]
    refine kT 8 (some 27) (.agg tk.toArray) (h:=?_)
    simp only[p1,p2,p3,p4,p5]
    refine kT 9 (some 28) (.agg au.toArray) (h:=?_)
    simp only[p1,p2,p3,p4,p5]
    refine kT 10 (some 29) (.int .i64 c) (h:=?_)
    simp only[p1,p2,p3,p4,p5]
    have hn78:g7≠g8:=hne_of hT_6 hA_6 (by decide)
    have hs3:=hset_bel hH6 hLg7 tk
    refine kR 13 none (n:=20) (cs:=tk) (there_att (cs:=tkZ.toList) hT_6 (by rw[Array.length_toList,tkZ_size];omega)) q1 q3 hs3 (h:=?_)
    simp only[p1,p2,p3,p4,p5]
    have hA2:=Blk.offSet hn78 tk hA_6
    have hs4:=hset_bel hs3 hLg8 au
    refine kR 14 none (n:=5) (cs:=au) (there_att (cs:=auZ.toList) hA2 (by rw[Array.length_toList];exact Nat.le_refl _)) q2 q4 hs4 (h:=?_)
    simp only[p1,p2,p3,p4,p5]
    refine kT 15 (some 9) (.int .i64 c) (h:=?_)
    simp only[p1,p2,p3,p4,p5]
    refine kE (h:=?_)
    have hfin:=vrp_end (P:=BadP) hT_6 hA_6 hn78 hH6 hp q1 q2 hLg7 hLg8 (fun _ _ h=>h)
    go_wp2_with fail
    go_meet
    exact hfin
  -- end of region 2
 case rest=>
  rename World=>w4
  obtain⟨g7,g8,tk,au,c,rfl,rfl,rfl,⟨_,_,rfl⟩,hB7,hB8,hb4⟩:=hcut
  have HV4:=Lib.hid (HV3.keep hb4)
  have HX4:=Lib.hid (HX3.trans (XT.of_below HV3.lt hb4))
  have HD4:=Lib.hid (HD3.keep hb4)
  clear hB7 hB8 hb4
  go_wp2_with (first
   | (refine bldC 26 _ rfl rfl rfl builtDig ?_)
   | (refine stBlk 26 (.tmp 5) (.tmp 33) rfl rfl (by rfl) (by rfl) HD4.out dZ_info rfl dZ_one ?_;intro w9 hB9 hb9 ho9 hz9))
  have HOF:Hid (Off (gb+1) w4 w9):=Lib.hid ⟨hb9.os,hb9.tape,hb9.output,hb9.size,fun g _ hg=>ho9 g hg⟩
  have hr:=hB9.range
  exact bodyPost_ret (results_tc rfl _ rfl hr Tryz.underlying26 rfl (by rw[Array.length_toList];exact dZ_info)) rfl ⟨rfl,mp_end HLT.out HLO.out HB2.out HV4.out HX4.out HOF.out HGB.out⟩
end
end
section
open Go.RowKit
attribute [local irreducible] wpQuiet wpAnyH
theorem verOK_bad(V:VerF)(hV:∀ s b,(reqB b).2.2=false→V s b=((1,z32L),lookS s))(key:Nat→Nat)(skew:Int):VerOK V (fun d=>(reqB (dataI d)).2.2=false) (fun _=>True) key skew:=by
 intro w0 w gv g9 gm k N s X x hT hD hl hI hk hv hm hX
 rw[hV s _ hD]
 obtain⟨⟨kd,n,d,cs⟩,A,ca,B,cb⟩:=x
 have hs:=hI.1
 rw[bytes_u8s] at hs
 have h:=m_verify_bad (B:=B) (cb:=cb) (cl:=cs.length) (dl:=d.length) (ca:=ca) (kd:=kd) (nn:=n) (dataI d) A (by rw[dataI_length];exact hs) (dataI_bys d) (by rw[dataI_length];simp only at hl;omega) hD hv hm hX
 exact h.mono fun e w' hm=>hm.up (Nat.le_succ _)
def vBad:VerF:=fun s _=>((1,z32L),lookS s)
theorem awake25_any(w:World)(ht:Tab w)(hml:ML w):Calls Tryz.prog 6 #[] w fun e w'=>e = .returned (.bool true)∧Below w.heap.size w w':=by
  have hn:VNil vBad:=fun _=>rfl
  have hdat:∀(l:List OpR),opsOf l=ops1→l.length=3∧(∀ x∈l,x.o.data=[]∧x.o.cuts=[]):=fun l h=>by
    refine⟨by rw[← opsOf_length,h];rfl,fun x hx=>?_⟩
    have h1:x.o∈ops1:=by rw[← h];exact List.mem_map_of_mem hx
    simp only[ops1,List.mem_cons,List.not_mem_nil,or_false] at h1
    rcases h1 with h1|h1|h1 <;> rw[h1] <;> exact⟨rfl,rfl⟩
  have hnil:(reqB (dataI [])).2.2=false:=by kernel_rfl
  refine awake_of w (fun w1 hb1=>?_) (fun w1 hb1=>?_) (fun w1 A cap hb1 hs=>?_)
  · have h := eplay_of (V := vBad) c58 text1 w1 (hml.below hb1) (ht.below hb1) (by decide) (fun w2 l A cap hb2 ho hs hin => by
        rw [parse1] at ho
        obtain ⟨h3, hd⟩ := hdat l ho
        exact erun_of c58 _ w2 fun w3 hb3=>run_any A cap l w3 (verOK_bad vBad (fun _ _ _=>rfl) _ _) (fun _ _=>rfl) (fun _ _=>trivial) (hs.below hb3) (fun x hx=>(hin x hx).below hb3)
          (fun x hx=>by rw[(hd x hx).1,(hd x hx).2];exact⟨by decide,by decide⟩) (fun x hx _=>by rw[(hd x hx).1];exact hnil) (by omega) (by decide))
      (by rw[parse1,run1_ok hn];exact rows1_rowOk) (by rw[parse1,run1_ok hn];decide) (by rw[parse1,run1_ok hn];intro x hx;cases hx)
    rw[play1_ok hn] at h
    exact h
  · have h := eplay_of (V := vBad) c51 [] w1 (hml.below hb1) (ht.below hb1) (by decide) (fun w2 l A cap hb2 ho hs hin => by
        rw [parse0] at ho
        have h0 : l = [] := by simpa [opsOf] using ho
        subst h0
        exact erun_of c51 _ w2 fun w3 hb3=>run_any A cap [] w3 (verOK_bad vBad (fun _ _ _=>rfl) _ _) (fun _ _=>rfl) (fun _ _=>trivial) (hs.below hb3) (fun x hx=>by cases hx) (fun x hx=>by cases hx) (fun x hx=>by cases hx) (by decide) (by decide))
      (by rw[parse0];intro r hr;cases hr) (by rw[parse0];decide) (by rw[parse0];intro x _;rfl)
    rw[play0_ok] at h
    exact h
  · have h:=erun_of (r:=runR vBad c58 [tick4]) c58 (.slice A 1 cap) w1 fun w3 hb3=>run_any A cap [⟨tick4,none,0,none,0⟩] w3 (verOK_bad vBad (fun _ _ _=>rfl) _ _) (fun _ _=>rfl) (fun _ _=>trivial) (hs.below hb3)
      (fun x hx=>by
        simp only[List.mem_cons,List.not_mem_nil,or_false] at hx
        subst hx
        exact⟨Sn.nil1 _ _,Sn.nil1 _ _⟩)
      (fun x hx=>by
        simp only[List.mem_cons,List.not_mem_nil,or_false] at hx
        subst hx
        exact⟨by decide,by decide⟩)
      (fun x hx hk=>by
        simp only[List.mem_cons,List.not_mem_nil,or_false] at hx
        subst hx
        exact absurd hk (by decide)) (by decide) (by decide)
    rw[run4_ok] at h
    exact h
end
end Go.Proofs.YtiaigidbcljblaaGreatDoor
