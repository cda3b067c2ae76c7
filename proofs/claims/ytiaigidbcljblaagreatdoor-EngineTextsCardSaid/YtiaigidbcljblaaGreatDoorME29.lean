import Derived.Test.YtiaigidbcljblaaGreatDoorME27
import Derived.Test.YtiaigidbcljblaaGreatDoorME28
import Derived.Test.YtiaigidbcljblaaGreatDoorME25
import Derived.StillTailTactics
import Derived.Test.YtiaigidbcljblaaGreatDoorME13
import Derived.Test.YtiaigidbcljblaaGreatDoorME12
set_option linter.unusedVariables false
set_option linter.unusedSimpArgs false
set_option maxRecDepth 100000
set_option maxHeartbeats 40000000
namespace Go.Proofs.YtiaigidbcljblaaGreatDoor
section
open Go.RowKit
theorem IsBuilder.keep{T e B b:Nat}{bs:List Value}{w w':World}(h:Lib.IsBuilder T e B b bs w)(hb:Below w.heap.size w w'):Lib.IsBuilder T e B b bs w':=by
 have key:∀ p,Lib.BuilderAt T e B b p bs w→Lib.BuilderAt T e B b p bs w':=by
  rintro p ⟨hB,v,hbk,hown,hne⟩
  have hlt:b<w.heap.size:=by
   rcases Nat.lt_or_ge b w.heap.size with h'|h'
   ·exact h'
   ·simp[Array.getElem?_eq_none h'] at hbk
  exact⟨hB,v,by rw[hb.block b hlt];exact hbk,own_below hown hb,hne⟩
 rcases h with h|h
 ·exact .inl (key _ h)
 ·exact .inr (key _ h)
structure OpR where
 o:OpD
 A:Option Addr
 ca:Nat
 B:Option Addr
 cb:Nat
def opC(x:OpR):List Value:=[.int .i64 x.o.kind,.int .i64 x.o.n,.slice x.A x.o.data.length x.ca,.slice x.B x.o.cuts.length x.cb]
def OpI(w:World)(x:OpR):Prop:=Sn w 1 (.slice x.A x.o.data.length x.ca) x.o.data.length (Lib.byteCells x.o.data)∧Sn w 1 (.slice x.B x.o.cuts.length x.cb) x.o.cuts.length (intC x.o.cuts)
theorem OpI.below{w w':World}{x:OpR}(h:OpI w x)(hb:Below w.heap.size w w'):OpI w' x:=⟨h.1.below hb,h.2.below hb⟩
theorem opC_one(x:OpR):∀ u∈opC x,u.oneCell'=true:=by
 intro u hu
 simp only[opC,List.mem_cons,List.not_mem_nil,or_false] at hu
 rcases hu with rfl|rfl|rfl|rfl <;> rfl
theorem at_op{w:World}{A:Option Addr}{cap:Nat}{l:List OpR}(h:Sn w 4 (.slice A l.length cap) l.length (l.flatMap opC))(k:Nat)(hk:k<l.length):
  ∃ b off,A=some ⟨b,off,none⟩∧w.rangeAt b (off+k*4) (opC l[k]):=by
 obtain⟨b,off,rfl,hr⟩:=h.range k hk
 rw[flatMap_piece opC 4 l (fun _ _=>rfl) k hk] at hr
 exact⟨b,off,rfl,hr⟩
def opsOf(l:List OpR):List OpD:=l.map OpR.o
end
section
open Go.RowKit
attribute [local irreducible] wpQuiet wpAnyH
def dZ:Array Value:=(u8s z32L).toArray
theorem zeroDig:∀ w,(zeroValue 26).run Tryz.prog w = .ok (.agg dZ) w:=fun w=>by unfold dZ;kernel_rfl
theorem builtDig:Tryz.prog.built 26 []=some dZ:=by unfold dZ;kernel_rfl
theorem dZ_info:(Tryz.prog.info? 26).map (·.size)=some dZ.size:=by unfold dZ;kernel_rfl
theorem dZ_one:dZ.all (·.oneCell')=true:=by unfold dZ;exact all_oneCell_toArray (u8s_mem _)
def MP(w0 w:World)(gv g9 k N:Nat)(key:Nat→Nat)(skew:Int)(X:Nat→Prop)(r:(Int×List Int)×VS)(e:Ending)(w':World):Prop:=
 e = .returned (.tuple #[.int .i64 r.1.1,.agg (u8s r.1.2).toArray])∧VE w0 w' gv g9 k N key skew r.2 X∧XT X w w'
def XW(X:Nat→Prop)(w w2:World)(b:Nat):Prop:=X b∨(w.heap.size≤b∧b<w2.heap.size)
section
variable {w0 w w2 w3 w9 : World} {gv g9 k N gd : Nat} {key : Nat → Nat} {skew : Int} {s : VS} {X : Nat → Prop}
theorem VE.xw(h:VE w0 w gv g9 k N key skew s X)(hB:Below w.heap.size w w2):VE w0 w2 gv g9 k N key skew s (XW X w w2):=h.add hB (fun b hb=>hb)
theorem mp_end(hX:∀ b,X b→b<w.heap.size)(hl:w0.heap.size≤w.heap.size)(hB:Below w.heap.size w w2)(hv:VE w0 w3 gv g9 k N key skew s (XW X w w2))(hx:XT (XW X w w2) w2 w3)(ho:Off gd w3 w9)(hgd:w.heap.size≤gd∧gd<w2.heap.size):VE w0 w9 gv g9 k N key skew s X∧XT X w w9:=
 ⟨(hv.off ho (.inr hgd) (Nat.le_trans hl hgd.1)).less (fun b hb=>.inl hb),⟨Nat.le_trans hB.size (Nat.le_trans hx.size ho.size),fun b hb=>(ho.block b (Nat.lt_of_lt_of_le (hX b hb) (Nat.le_trans hB.size hx.size)) (by have:=hX b hb;omega)).trans ((hx.block b (.inl hb)).trans (hB.block b (hX b hb)))⟩⟩
end
section
variable {w0 w : World} {gv g9 gm k N : Nat} {key : Nat → Nat} {skew : Int} {s : VS} {X : Nat → Prop} {A B : Option Addr} {ca cb dl cl : Nat} {kd n : Int}
theorem m_tick(hn:isI64 n)(h:VE w0 w gv g9 k N key skew s X)(hm:Blk w gm 106 (machC key g9 gv))(hX:X gm):
  Calls Tryz.prog 41 #[.pointer (some ⟨gm,0,none⟩),.agg #[.int .i64 kd,.int .i64 n,.slice A dl ca,.slice B cl cb]] w (MP w0 w gv g9 k N key skew X ((0,z32L),tickS s n)):=by
 have H:=Lib.hid h
 have HM:=Lib.hid hm
 have HN:=Lib.hid hn
 have HLT:=Lib.hid h.lt
 have HLO:=Lib.hid h.lo
 clear h hm hn
 go_enter Tryz.func41,Tryz.ntmps41
 go_upto_region 1 with (refine al 26 dZ rfl rfl zeroDig ?_)
 obtain⟨gb,hgb⟩:∃ g,g=w.heap.size:=⟨_,rfl⟩
 obtain⟨w2,hw2⟩:∃ W,W=(w.alloc (.cells #[.int .i64 kd,.int .i64 n,.slice A dl ca,.slice B cl cb] 71)).alloc (.cells dZ 26):=⟨_,rfl⟩
 have HB2:Hid (Below w.heap.size w w2):=Lib.hid (by rw[hw2];exact bstep (bel1 _ _) (bel1 _ _))
 have HO:Hid (Blk w2 gb 71 #[.int .i64 kd,.int .i64 n,.slice A dl ca,.slice B cl cb]):=Lib.hid (by rw[hw2,hgb];exact(Blk.new _ _ _).alloc _)
 have HD:Hid (Blk w2 (gb+1) 26 dZ):=Lib.hid (by rw[hw2,hgb];exact Blk.newAt _ _ _ _ (by simp))
 have HGB:Hid (w.heap.size≤gb+1∧gb+1<w2.heap.size):=Lib.hid ⟨by omega,by rw[hw2,hgb];simp⟩
 rw[← hw2]
 simp only[World.size_alloc,← hgb]
 clear hw2 hgb
 have HV2:=Lib.hid (H.out.xw HB2.out)
 obtain⟨_,c17,_⟩:=mach_cells (HM.keep HB2.out)
 have o1:=HO.cell 1
 simp only[List.getElem?_toArray,List.getElem?_cons_succ,List.getElem?_cons_zero] at o1
 have HT:=Lib.hid (e_tick n HN.out HV2.drew)
 go_still_tail 6,(by kernel_rfl)
 change wpList _ _ _ _ _ w2.drew
 obtain⟨wD,hwD⟩:∃ W,W=w2.drew:=⟨_,rfl⟩
 rw[← hwD] at HT ⊢
 have HXD:Hid (XT (XW X w w2) w2 wD):=Lib.hid (by rw[hwD];exact XT.of_below HV2.lt (Below.refl _ _).drew)
 clear hwD c17 o1
 go_wp2_with fail
 refine HT.mono ?_
 rintro e w3 ⟨rfl,hv3,hx3⟩
 have HV3:=Lib.hid hv3
 have HX3:=Lib.hid (HXD.trans hx3)
 have HD3:Hid (Blk w3 (gb+1) 26 dZ):=Lib.hid ((HX3.block (gb+1) (.inr HGB.out)).trans HD.out)
 clear hv3 hx3 HT
 go_wp2_with (first
  | (refine bldC 26 _ rfl rfl rfl builtDig ?_)
  | (refine stBlk 26 (.tmp 5) (.tmp 13) rfl rfl (by rfl) (by rfl) HD3.out dZ_info rfl dZ_one ?_;intro w9 hB9 hb9 ho9 hz9))
 have HOF:Hid (Off (gb+1) w3 w9):=Lib.hid ⟨hb9.os,hb9.tape,hb9.output,hb9.size,fun g _ hg=>ho9 g hg⟩
 have hr:=hB9.range
 exact bodyPost_ret (results_tc rfl _ rfl hr Tryz.underlying26 rfl (by rw[Array.length_toList];exact dZ_info)) rfl ⟨rfl,mp_end HLT.out HLO.out HB2.out HV3.out HX3.out HOF.out HGB.out⟩
-- methods
theorem m_boot(hk:k≤60)(h:VE w0 w gv g9 k N key skew s X)(hm:Blk w gm 106 (machC key g9 gv))(hX:X gm):
  Calls Tryz.prog 42 #[.pointer (some ⟨gm,0,none⟩),.agg #[.int .i64 kd,.int .i64 n,.slice A dl ca,.slice B cl cb]] w (MP w0 w gv g9 (k+1) N key skew X ((codeA (bootS skew s).1,z32L),(bootS skew s).2)):=by
 have H:=Lib.hid h
 have HM:=Lib.hid hm
 obtain⟨x,hx⟩:∃ x,x=(bootS skew s).1:=⟨_,rfl⟩
 obtain⟨s2,hs2⟩:∃ x,x=(bootS skew s).2:=⟨_,rfl⟩
 obtain⟨v,hv⟩:∃ v,v=valE x:=⟨_,rfl⟩
 have HC:=Lib.hid (fun W=>code_val x W)
 rw[← hv] at HC
 rw[← hx,← hs2]
 have HX0:=Lib.hid hx
 have HS0:=Lib.hid hs2
 have HV0:=Lib.hid hv
 clear hx hs2 hv
 have HLT:=Lib.hid h.lt
 have HLO:=Lib.hid h.lo
 clear h hm
 go_enter Tryz.func42,Tryz.ntmps42
 go_upto_region 1 with (refine al 26 dZ rfl rfl zeroDig ?_)
 obtain⟨gb,hgb⟩:∃ g,g=w.heap.size:=⟨_,rfl⟩
 obtain⟨w2,hw2⟩:∃ W,W=(w.alloc (.cells #[.int .i64 kd,.int .i64 n,.slice A dl ca,.slice B cl cb] 71)).alloc (.cells dZ 26):=⟨_,rfl⟩
 have HB2:Hid (Below w.heap.size w w2):=Lib.hid (by rw[hw2];exact bstep (bel1 _ _) (bel1 _ _))
 have HO:Hid (Blk w2 gb 71 #[.int .i64 kd,.int .i64 n,.slice A dl ca,.slice B cl cb]):=Lib.hid (by rw[hw2,hgb];exact(Blk.new _ _ _).alloc _)
 have HD:Hid (Blk w2 (gb+1) 26 dZ):=Lib.hid (by rw[hw2,hgb];exact Blk.newAt _ _ _ _ (by simp))
 have HGB:Hid (w.heap.size≤gb+1∧gb+1<w2.heap.size):=Lib.hid ⟨by omega,by rw[hw2,hgb];simp⟩
 rw[← hw2]
 simp only[World.size_alloc,← hgb]
 clear hw2 hgb
 have HV2:=Lib.hid (H.out.xw HB2.out)
 obtain⟨c16,c17,_⟩:=mach_cells (HM.keep HB2.out)
 have o1:=HO.cell 1
 have o3:=HO.cell 3
 simp only[List.getElem?_toArray,List.getElem?_cons_succ,List.getElem?_cons_zero] at o1 o3
 have HT:=Lib.hid (e_boot hk HV2.out)
 rw[← HX0.out,← HV0.out,← HS0.out] at HT
 clear o1 o3
 go_wp2_with (first
  | (go_at_call 69;refine HT.mono ?_;rintro e w3' ⟨rfl,hv3,hx3⟩;have HV3':=Lib.hid hv3;have HX3':=Lib.hid hx3;clear hv3 hx3)
  | (go_at_call 34;refine(HC.out _).mono ?_;rintro e w3 ⟨rfl,hb3⟩;have HV3:=Lib.hid (HV3'.out.keep hb3);have HX3:=Lib.hid (HX3'.out.trans (XT.of_below HV3'.out.lt hb3));have HD3:Hid (Blk w3 (gb+1) 26 dZ):=Lib.hid ((HX3.block (gb+1) (.inr HGB.out)).trans HD.out);clear hb3)
  | (refine bldC 26 _ rfl rfl rfl builtDig ?_)
  | (refine stBlk 26 (.tmp 5) (.tmp 12) rfl rfl (by rfl) (by rfl) HD3.out dZ_info rfl dZ_one ?_;intro w9 hB9 hb9 ho9 hz9))
 have HOF:Hid (Off (gb+1) w3 w9):=Lib.hid ⟨hb9.os,hb9.tape,hb9.output,hb9.size,fun g _ hg=>ho9 g hg⟩
 have hr:=hB9.range
 exact bodyPost_ret (results_tc rfl _ rfl hr Tryz.underlying26 rfl (by rw[Array.length_toList];exact dZ_info)) rfl ⟨rfl,mp_end HLT.out HLO.out HB2.out HV3.out HX3.out HOF.out HGB.out⟩
theorem m_compact(hk:k≤60)(h:VE w0 w gv g9 k N key skew s X)(hm:Blk w gm 106 (machC key g9 gv))(hX:X gm):
  Calls Tryz.prog 44 #[.pointer (some ⟨gm,0,none⟩),.agg #[.int .i64 kd,.int .i64 n,.slice A dl ca,.slice B cl cb]] w (MP w0 w gv g9 (k+1) N key skew X ((codeA (compS s).1,z32L),(compS s).2)):=by
 have H:=Lib.hid h
 have HM:=Lib.hid hm
 obtain⟨x,hx⟩:∃ x,x=(compS s).1:=⟨_,rfl⟩
 obtain⟨s2,hs2⟩:∃ x,x=(compS s).2:=⟨_,rfl⟩
 obtain⟨v,hv⟩:∃ v,v=valE x:=⟨_,rfl⟩
 have HC:=Lib.hid (fun W=>code_val x W)
 rw[← hv] at HC
 rw[← hx,← hs2]
 have HX0:=Lib.hid hx
 have HS0:=Lib.hid hs2
 have HV0:=Lib.hid hv
 clear hx hs2 hv
 have HLT:=Lib.hid h.lt
 have HLO:=Lib.hid h.lo
 clear h hm
 go_enter Tryz.func44,Tryz.ntmps44
 go_upto_region 1 with (refine al 26 dZ rfl rfl zeroDig ?_)
 obtain⟨gb,hgb⟩:∃ g,g=w.heap.size:=⟨_,rfl⟩
 obtain⟨w2,hw2⟩:∃ W,W=(w.alloc (.cells #[.int .i64 kd,.int .i64 n,.slice A dl ca,.slice B cl cb] 71)).alloc (.cells dZ 26):=⟨_,rfl⟩
 have HB2:Hid (Below w.heap.size w w2):=Lib.hid (by rw[hw2];exact bstep (bel1 _ _) (bel1 _ _))
 have HO:Hid (Blk w2 gb 71 #[.int .i64 kd,.int .i64 n,.slice A dl ca,.slice B cl cb]):=Lib.hid (by rw[hw2,hgb];exact(Blk.new _ _ _).alloc _)
 have HD:Hid (Blk w2 (gb+1) 26 dZ):=Lib.hid (by rw[hw2,hgb];exact Blk.newAt _ _ _ _ (by simp))
 have HGB:Hid (w.heap.size≤gb+1∧gb+1<w2.heap.size):=Lib.hid ⟨by omega,by rw[hw2,hgb];simp⟩
 rw[← hw2]
 simp only[World.size_alloc,← hgb]
 clear hw2 hgb
 have HV2:=Lib.hid (H.out.xw HB2.out)
 obtain⟨c16,c17,_⟩:=mach_cells (HM.keep HB2.out)
 have o1:=HO.cell 1
 have o3:=HO.cell 3
 simp only[List.getElem?_toArray,List.getElem?_cons_succ,List.getElem?_cons_zero] at o1 o3
 have HT:=Lib.hid (e_compact hk HV2.out)
 rw[← HX0.out,← HV0.out,← HS0.out] at HT
 clear o1 o3
 go_wp2_with (first
  | (go_at_call 73;refine HT.mono ?_;rintro e w3' ⟨rfl,hv3,hx3⟩;have HV3':=Lib.hid hv3;have HX3':=Lib.hid hx3;clear hv3 hx3)
  | (go_at_call 34;refine(HC.out _).mono ?_;rintro e w3 ⟨rfl,hb3⟩;have HV3:=Lib.hid (HV3'.out.keep hb3);have HX3:=Lib.hid (HX3'.out.trans (XT.of_below HV3'.out.lt hb3));have HD3:Hid (Blk w3 (gb+1) 26 dZ):=Lib.hid ((HX3.block (gb+1) (.inr HGB.out)).trans HD.out);clear hb3)
  | (refine bldC 26 _ rfl rfl rfl builtDig ?_)
  | (refine stBlk 26 (.tmp 5) (.tmp 12) rfl rfl (by rfl) (by rfl) HD3.out dZ_info rfl dZ_one ?_;intro w9 hB9 hb9 ho9 hz9))
 have HOF:Hid (Off (gb+1) w3 w9):=Lib.hid ⟨hb9.os,hb9.tape,hb9.output,hb9.size,fun g _ hg=>ho9 g hg⟩
 have hr:=hB9.range
 exact bodyPost_ret (results_tc rfl _ rfl hr Tryz.underlying26 rfl (by rw[Array.length_toList];exact dZ_info)) rfl ⟨rfl,mp_end HLT.out HLO.out HB2.out HV3.out HX3.out HOF.out HGB.out⟩
theorem m_fail(hn:n≤1000000000)(hk:k≤60)(h:VE w0 w gv g9 k N key skew s X)(hm:Blk w gm 106 (machC key g9 gv))(hX:X gm):
  Calls Tryz.prog 45 #[.pointer (some ⟨gm,0,none⟩),.agg #[.int .i64 kd,.int .i64 n,.slice A dl ca,.slice B cl cb]] w (MP w0 w gv g9 (k+1) N key skew X ((0,z32L),⟨planF s.d n,s.now,s.co⟩)):=by
 have H:=Lib.hid h
 have HM:=Lib.hid hm
 have HLT:=Lib.hid h.lt
 have HLO:=Lib.hid h.lo
 clear h hm
 go_enter Tryz.func45,Tryz.ntmps45
 go_upto_region 1 with (refine al 26 dZ rfl rfl zeroDig ?_)
 obtain⟨gb,hgb⟩:∃ g,g=w.heap.size:=⟨_,rfl⟩
 obtain⟨w2,hw2⟩:∃ W,W=(w.alloc (.cells #[.int .i64 kd,.int .i64 n,.slice A dl ca,.slice B cl cb] 71)).alloc (.cells dZ 26):=⟨_,rfl⟩
 have HB2:Hid (Below w.heap.size w w2):=Lib.hid (by rw[hw2];exact bstep (bel1 _ _) (bel1 _ _))
 have HO:Hid (Blk w2 gb 71 #[.int .i64 kd,.int .i64 n,.slice A dl ca,.slice B cl cb]):=Lib.hid (by rw[hw2,hgb];exact(Blk.new _ _ _).alloc _)
 have HD:Hid (Blk w2 (gb+1) 26 dZ):=Lib.hid (by rw[hw2,hgb];exact Blk.newAt _ _ _ _ (by simp))
 have HGB:Hid (w.heap.size≤gb+1∧gb+1<w2.heap.size):=Lib.hid ⟨by omega,by rw[hw2,hgb];simp⟩
 rw[← hw2]
 simp only[World.size_alloc,← hgb]
 clear hw2 hgb
 have HV2:=Lib.hid (H.out.xw HB2.out)
 obtain⟨c16,c17,_⟩:=mach_cells (HM.keep HB2.out)
 have o1:=HO.cell 1
 have o3:=HO.cell 3
 simp only[List.getElem?_toArray,List.getElem?_cons_succ,List.getElem?_cons_zero] at o1 o3
 have HT:=Lib.hid (e_fail n hn hk HV2.drew)
 go_still_tail 6,(by kernel_rfl)
 change wpList _ _ _ _ _ w2.drew
 obtain⟨wD,hwD⟩:∃ W,W=w2.drew:=⟨_,rfl⟩
 rw[← hwD] at HT ⊢
 have HXD:Hid (XT (XW X w w2) w2 wD):=Lib.hid (by rw[hwD];exact XT.of_below HV2.lt (Below.refl _ _).drew)
 clear hwD c16 c17 o1 o3
 go_wp2_with fail
 refine HT.mono ?_
 rintro e w3 ⟨rfl,hv3,hx3⟩
 have HV3:=Lib.hid hv3
 have HX3:=Lib.hid (HXD.trans hx3)
 have HD3:Hid (Blk w3 (gb+1) 26 dZ):=Lib.hid ((HX3.block (gb+1) (.inr HGB.out)).trans HD.out)
 clear hv3 hx3 HT
 go_wp2_with (first
  | (refine bldC 26 _ rfl rfl rfl builtDig ?_)
  | (refine stBlk 26 (.tmp 5) (.tmp 13) rfl rfl (by rfl) (by rfl) HD3.out dZ_info rfl dZ_one ?_;intro w9 hB9 hb9 ho9 hz9))
 have HOF:Hid (Off (gb+1) w3 w9):=Lib.hid ⟨hb9.os,hb9.tape,hb9.output,hb9.size,fun g _ hg=>ho9 g hg⟩
 have hr:=hB9.range
 exact bodyPost_ret (results_tc rfl _ rfl hr Tryz.underlying26 rfl (by rw[Array.length_toList];exact dZ_info)) rfl ⟨rfl,mp_end HLT.out HLO.out HB2.out HV3.out HX3.out HOF.out HGB.out⟩
theorem m_crash(cs:List Int)(hcl:cs.length=cl)(hs:Sn w 1 (.slice B cl cb) cl (i64s cs))(hc:cl≤100000)(hn:n≤1000000000)(hk:k≤60)(h:VE w0 w gv g9 k N key skew s X)(hm:Blk w gm 106 (machC key g9 gv))(hX:X gm):
  Calls Tryz.prog 46 #[.pointer (some ⟨gm,0,none⟩),.agg #[.int .i64 kd,.int .i64 n,.slice A dl ca,.slice B cl cb]] w (MP w0 w gv g9 (k+1) N key skew X ((0,z32L),⟨if n=0 then crashD s.d cs else planC s.d n cs,s.now,s.co⟩)):=by
 have H:=Lib.hid h
 have HM:=Lib.hid hm
 have HS:=Lib.hid hs
 have HCL:=Lib.hid hcl
 clear hs hcl
 have HLT:=Lib.hid h.lt
 have HLO:=Lib.hid h.lo
 clear h hm
 go_enter Tryz.func46,Tryz.ntmps46
 go_upto_region 1 with (refine al 26 dZ rfl rfl zeroDig ?_)
 obtain⟨gb,hgb⟩:∃ g,g=w.heap.size:=⟨_,rfl⟩
 obtain⟨w2,hw2⟩:∃ W,W=(w.alloc (.cells #[.int .i64 kd,.int .i64 n,.slice A dl ca,.slice B cl cb] 71)).alloc (.cells dZ 26):=⟨_,rfl⟩
 have HB2:Hid (Below w.heap.size w w2):=Lib.hid (by rw[hw2];exact bstep (bel1 _ _) (bel1 _ _))
 have HO:Hid (Blk w2 gb 71 #[.int .i64 kd,.int .i64 n,.slice A dl ca,.slice B cl cb]):=Lib.hid (by rw[hw2,hgb];exact(Blk.new _ _ _).alloc _)
 have HD:Hid (Blk w2 (gb+1) 26 dZ):=Lib.hid (by rw[hw2,hgb];exact Blk.newAt _ _ _ _ (by simp))
 have HGB:Hid (w.heap.size≤gb+1∧gb+1<w2.heap.size):=Lib.hid ⟨by omega,by rw[hw2,hgb];simp⟩
 rw[← hw2]
 simp only[World.size_alloc,← hgb]
 clear hw2 hgb
 have HV2:=Lib.hid (H.out.xw HB2.out)
 obtain⟨c16,c17,_⟩:=mach_cells (HM.keep HB2.out)
 have o1:=HO.cell 1
 have o3:=HO.cell 3
 simp only[List.getElem?_toArray,List.getElem?_cons_succ,List.getElem?_cons_zero] at o1 o3
 by_cases hn0:n=0
 ·subst hn0
  have HSE:Hid ((if (0:Int)=0 then crashD s.d cs else planC s.d 0 cs)=crashD s.d cs):=Lib.hid (if_pos rfl)
  have hs2:Sn w2.drew 1 (.slice B cs.length cb) cs.length (i64s cs):=by rw[HCL.out];exact(HS.below HB2.out).below (Below.refl _ _).drew
  have HT:=Lib.hid (e_crash cs B cb hs2 (by rw[HCL.out];exact hc) hk HV2.drew)
  rw[HCL.out] at HT
  rw[HSE.out]
  clear hs2
  go_upto_region 2 with fail
  go_still_tail 6,(by kernel_rfl)
  change wpList _ _ _ _ _ w2.drew
  obtain⟨wD,hwD⟩:∃ W,W=w2.drew:=⟨_,rfl⟩
  rw[← hwD] at HT ⊢
  have HXD:Hid (XT (XW X w w2) w2 wD):=Lib.hid (by rw[hwD];exact XT.of_below HV2.lt (Below.refl _ _).drew)
  clear hwD c16 c17 o1 o3
  go_wp2_with fail
  refine HT.mono ?_
  rintro e w3 ⟨rfl,hv3,hx3⟩
  have HV3:=Lib.hid hv3
  have HX3:=Lib.hid (HXD.trans hx3)
  have HD3:Hid (Blk w3 (gb+1) 26 dZ):=Lib.hid ((HX3.block (gb+1) (.inr HGB.out)).trans HD.out)
  clear hv3 hx3 HT
  go_wp2_with (first
   | (refine bldC 26 _ rfl rfl rfl builtDig ?_)
   | (refine stBlk 26 (.tmp 5) (.tmp 25) rfl rfl (by rfl) (by rfl) HD3.out dZ_info rfl dZ_one ?_;intro w9 hB9 hb9 ho9 hz9))
  have HOF:Hid (Off (gb+1) w3 w9):=Lib.hid ⟨hb9.os,hb9.tape,hb9.output,hb9.size,fun g _ hg=>ho9 g hg⟩
  have hr:=hB9.range
  exact bodyPost_ret (results_tc rfl _ rfl hr Tryz.underlying26 rfl (by rw[Array.length_toList];exact dZ_info)) rfl ⟨rfl,mp_end HLT.out HLO.out HB2.out HV3.out HX3.out HOF.out HGB.out⟩
 ·have t0:(n == 0)=false:=by simpa using hn0
  have HSE:Hid ((if n=0 then crashD s.d cs else planC s.d n cs)=planC s.d n cs):=Lib.hid (if_neg hn0)
  have hs2:Sn w2.drew 1 (.slice B cl cb) cs.length (i64s cs):=by rw[HCL.out];exact(HS.below HB2.out).below (Below.refl _ _).drew
  have HT:=Lib.hid (e_crashAt n (.slice B cl cb) cs hs2 (by rw[HCL.out];exact hc) hn hk HV2.drew)
  rw[HSE.out]
  clear hs2
  go_upto_region 3 with fail
  go_still_tail 8,(by kernel_rfl)
  change wpList _ _ _ _ _ w2.drew
  obtain⟨wD,hwD⟩:∃ W,W=w2.drew:=⟨_,rfl⟩
  rw[← hwD] at HT ⊢
  have HXD:Hid (XT (XW X w w2) w2 wD):=Lib.hid (by rw[hwD];exact XT.of_below HV2.lt (Below.refl _ _).drew)
  clear hwD c16 c17 o1 o3
  go_wp2_with fail
  refine HT.mono ?_
  rintro e w3 ⟨rfl,hv3,hx3⟩
  have HV3:=Lib.hid hv3
  have HX3:=Lib.hid (HXD.trans hx3)
  have HD3:Hid (Blk w3 (gb+1) 26 dZ):=Lib.hid ((HX3.block (gb+1) (.inr HGB.out)).trans HD.out)
  clear hv3 hx3 HT
  go_wp2_with (first
   | (refine bldC 26 _ rfl rfl rfl builtDig ?_)
   | (refine stBlk 26 (.tmp 5) (.tmp 25) rfl rfl (by rfl) (by rfl) HD3.out dZ_info rfl dZ_one ?_;intro w9 hB9 hb9 ho9 hz9))
  have HOF:Hid (Off (gb+1) w3 w9):=Lib.hid ⟨hb9.os,hb9.tape,hb9.output,hb9.size,fun g _ hg=>ho9 g hg⟩
  have hr:=hB9.range
  exact bodyPost_ret (results_tc rfl _ rfl hr Tryz.underlying26 rfl (by rw[Array.length_toList];exact dZ_info)) rfl ⟨rfl,mp_end HLT.out HLO.out HB2.out HV3.out HX3.out HOF.out HGB.out⟩
end
end
section
open Go.RowKit
attribute [local irreducible] wpQuiet wpAnyH
attribute [local go_sem] Oper.semAt_some
theorem Lies.off{T:Terr}{g:Nat}{W W':World}(h:Off g W W')(hg:¬T g):Lies T W W':=⟨h.os,h.tape,h.output,h.size,fun k hk ht=>h.block k hk fun e=>hg (e ▸ ht)⟩
def linesW:List Bs→List (Bs×Bool)
 | []=>[]
 | [w]=>if w.isEmpty then [] else [(w,false)]
 | w :: x :: ws=>(w,true) :: linesW (x :: ws)
def linesL(s:Bs):List (Bs×Bool):=linesW (split 10 s)
theorem linesL_nil:linesL []=[]:=rfl
theorem linesL_app(w r:Bs)(h:(10:UInt8) ∉ w):linesL (w++10 :: r)=(w,true) :: linesL r:=by
 unfold linesL
 rw[split_app 10 w r h]
 obtain⟨a,b,e⟩:=split_form 10 r
 rw[e];rfl
theorem linesL_last(w:Bs)(h:(10:UInt8) ∉ w)(hn:w≠[]):linesL w=[(w,false)]:=by
 unfold linesL
 rw[split_word 10 w h]
 cases w with
 | nil=>exact absurd rfl hn
 | cons _ _=>rfl
theorem line_step(r:Bs)(hn:r≠[])(hs:r.length≤100000000):∃(x q:Bs) (mb:Bool),Lib.cut r [10]=(x,q,mb)∧linesL r=(x,mb) :: linesL q∧q.length<r.length∧x.length≤r.length∧(hs=hs):=by
 by_cases h:(10:UInt8)∈r
 ·obtain⟨w,q,rfl,hw⟩:=first_occ 10 r h
  exact⟨w,q,true,cut_app 10 w q hw,linesL_app w q hw,by simp;omega,by simp,rfl⟩
 ·refine⟨r,[],false,cut_word 10 r h,linesL_last r h hn,?_,Nat.le_refl _,rfl⟩
  cases r with
  | nil=>exact absurd rfl hn
  | cons _ _=>simp
def encL(x:Bs×Bool):Array Value:=#[.string (SBy x.1),.bool x.2]
def XL(g1:Nat):Terr:=fun k=>k=g1∨k=2
def leftOf(g1:Nat)(wr:World):Nat:=lenV ((wr.cell? ⟨g1,0,none⟩).getD .nilIface)
structure LIt(g1:Nat)(r:Bs)(T:Terr)(wr:World):Prop where
 box:Blk wr g1 9 #[.string (SBy r)]
 ml:ML wr
 nT:¬T g1∧¬T 2
 len:r.length≤100000000
theorem ML.same{w w':World}(h:ML w)(hb:w'.heap[2]? = w.heap[2]?):ML w':=by
 obtain⟨m,hm⟩:=h
 exact⟨m,(World.cell?_of_block hb).trans hm⟩
theorem ML.lt{w:World}(h:ML w):2<w.heap.size:=by
 obtain⟨m,hm⟩:=h
 exact cell_lt hm
theorem lines_seq(s:Bs)(g1:Nat)(w:World)(h1:Blk w g1 9 #[.string (SBy s)])(hml:ML w)(hs:s.length≤100000000)(hg:g1≠2):
  SeqZ Fence.wide 9 Tryz.prog 92 #[.pointer (some ⟨g1,0,none⟩)] encL (XL g1) (fun k=>k=g1) (linesL s) w:=by
 intro ly J Jx T0 W hW hly1 hly2 hJ hJx hJT hY hT0 h0 _
 have HI0:Hid (LIt g1 s T0 W):=Lib.hid ⟨h1.keep hW,hml.below hW,⟨fun h=>hT0 _ h (.inl rfl),fun h=>hT0 _ h (.inr rfl)⟩,hs⟩
 have hg1w:g1<w.heap.size:=h1.lt
 have hmlw:=hml.lt
 have HNE:=Lib.hid (show g1≠ly∧2≠ly∧g1≠2 by refine⟨by omega,by omega,hg⟩)
 have HJ0:=Lib.hid h0
 clear h1 hml hT0 h0 hg
 refine callsIn_of_wp Tryz.func92 rfl trivial ?_ rfl
 simp only[Tryz.ntmps92,List.size_toArray,List.length_cons,List.length_nil,Nat.reduceAdd,Nat.reduceSub,Array.replicate_succ,Array.replicate_zero,List.push_toArray,List.append_toArray,List.nil_append,List.cons_append]
 refine wpIn_wide.2 ?_
 go_wp2_with fail
 go_loopw [3] (fun _ wr=>∃(pre:List (Bs×Bool)) (T:Terr) (r:Bs),Hid (J pre T wr)∧Hid (LIt g1 r T wr)∧Hid (linesL s=pre++linesL r)) (fun _ wr=>leftOf g1 wr)
 case atStart=>exact⟨[],T0,s,HJ0,HI0,Lib.hid rfl⟩
 case round=>
  clear HJ0 HI0
  obtain⟨pre,T,r,HJ,HI,HL⟩:=hrel
  have c1:=HI.box.cell 0
  have f1:=HI.box.frozen 0
  simp only[List.getElem?_toArray,List.getElem?_cons_zero] at c1
  have HLF:Hid (leftOf g1 wr=r.length):=Lib.hid (by unfold leftOf;rw[c1];simp[lenV,SB_size])
  by_cases hn:r=[]
  ·subst hn
   have HF:Hid (J (linesL s) T wr):=Lib.hid (by rw[HL.out,linesL_nil,List.append_nil];exact HJ.out)
   have c1':wr.cell? ⟨g1,0,none⟩=some (.string ⟨#[]⟩):=c1
   clear c1
   go_wp2_with fail
   go_end0
   exact⟨⟨_,rfl⟩,T,.inl HF.out⟩
  ·obtain⟨x,q,mb,hcut,hll,hql,hxl,_⟩:=line_step r hn HI.len
   have hisE:(SBy r).toList.isEmpty=false:=SB_nonempty (fun e=>hn (by have:=SB_size r;rw[e] at this;exact List.length_eq_zero_iff.1 this.symm))
   have hcall:=cut_call 10 r wr HI.ml HI.len
   rw[hcut] at hcall
   have HCALL:Hid (Calls Tryz.prog 93 #[.string (SBy r),.string ⟨#[10]⟩] wr fun e w'=>e = .returned (.tuple #[.string (SBy x),.string (SBy q),.bool mb])∧∃ n,w'=wr.drewN n):=Lib.hid hcall
   have hpre:pre++[(x,mb)] <+: linesL s:=by rw[HL.out,hll];exact⟨linesL q,by simp⟩
   have HPRE:=Lib.hid hpre
   have HL2:Hid (linesL s=(pre++[(x,mb)])++linesL q):=Lib.hid (by rw[HL.out,hll];simp)
   have HQL:=Lib.hid hql
   obtain⟨S,hS⟩:∃ S,S=SBy r:=⟨_,rfl⟩
   rw[← hS] at c1 hisE HCALL
   clear hS hcall hcut hll hpre hql hn
   go_upto_region 2 with (go_at_call 93;refine HCALL.mono ?_;rintro e w1 ⟨rfl,dn,hw1⟩;have hb1:Below wr.heap.size wr w1:=(by rw[hw1];exact bdrewN (Below.refl _ _) _);have HB1:=Lib.hid hb1;clear hw1 hb1)
   have hJ1:J pre T w1:=hJ _ _ _ _ HJ.out (Lies.of_below HB1.out)
   obtain⟨fn,tmps,assign,body,hy,hR⟩:=hY _ _ T w1 HPRE.out hJ1
   have HB1x:=Lib.hid (HI.box.keep HB1.out)
   have HML1:=Lib.hid (HI.ml.below HB1.out)
   dsimp only [encL] at hy
   refine(wpIn_wide (n:=9)).1 ?_
   gi_wp2_with fail
   refine hR.mono ?_
   rintro e wD ⟨T',hT,⟨rfl,hJD⟩|⟨rfl,hJD⟩⟩
   ·have hn1:¬(T g1∨g1=ly):=fun h=>h.elim HI.nT.1 HNE.out.1
    have hn2:¬(T 2∨2=ly):=fun h=>h.elim HI.nT.2 HNE.out.2.1
    have hBD:=hT.blk HB1x.out hn1
    have hMD:ML wD:=HML1.same (hT.block _ HML1.lt hn2)
    have hl1:=HB1x.lt
    have hl2:=HML1.lt
    have hT':¬T' g1∧¬T' 2:=⟨fun h=>(hT.sub _ h).elim hn1 (fun h=>by omega),fun h=>(hT.sub _ h).elim hn2 (fun h=>by omega)⟩
    have HFIN:Hid (J (pre++[(x,mb)]) T' (wD.setCell ⟨g1,0,none⟩ (.string (SBy q)))∧LIt g1 q T' (wD.setCell ⟨g1,0,none⟩ (.string (SBy q)))):=Lib.hid (by
     refine⟨hJ _ _ _ _ hJD (Lies.setCell _ _ _ _ (fun h=>h.elim hT'.1 (fun h=>h.2 rfl)) _),hBD.set_ 0 _,hMD.same (Below.heap_setCell wD ⟨g1,0,none⟩ _ _ (fun e=>HNE.out.2.2 e.symm)),hT',by have:=HI.len;have:=HQL.out;omega⟩)
    have hcD:=hBD.cell 0
    have hfD:=hBD.frozen 0
    simp only[List.getElem?_toArray,List.getElem?_cons_zero] at hcD
    have HM:Hid (leftOf g1 (wD.setCell ⟨g1,0,none⟩ (.string (SBy q)))<leftOf g1 wr):=Lib.hid (by
     rw[HLF.out]
     unfold leftOf
     have:=HFIN.out.2.box.cell 0
     simp only[List.getElem?_toArray,List.getElem?_cons_zero] at this
     rw[this]
     simp only[Option.getD_some,lenV,SB_size]
     exact HQL.out)
    clear hR hy hT hn1 hn2 hBD hMD hl1 hl2 hT' hJD hJ1 c1 f1 hisE
    gi_wp2_with fail
    go_wp2_with fail
    exact⟨⟨_,T',q,Lib.hid HFIN.out.1,Lib.hid HFIN.out.2,HL2⟩,HM.out⟩
   ·gi_wp2_with fail
    go_wp2_with fail
    refine bodyPost_ret (results_none rfl _ _ _) rfl ?_
    exact⟨⟨_,rfl⟩,T',.inr ⟨_,HPRE.out,hJD⟩⟩
end
end Go.Proofs.YtiaigidbcljblaaGreatDoor
