import Derived.Test.YtillkpjflcgkeaaGreatMT38
import Derived.Test.YtillkpjflcgkeaaGreatMT39
set_option linter.unusedSimpArgs false
set_option maxRecDepth 100000
namespace Go.Proofs.YtillkpjflcgkeaaGreat
open Go.RowKit
attribute [local irreducible] wpQuiet wpAnyH
theorem rk_up {w : World} {m : RM} {r : RefD} (h : RK w m r) : RK w m (rupD r) := ⟨h.sec, h.opn, h.plan, h.cuts, ⟨h.ok.sec, h.ok.opn, h.ok.ev, h.ok.few, h.ok.lo, h.ok.lp, h.ok.st⟩, h.bl⟩
set_option maxHeartbeats 40000000 in
theorem play19 {w0 w : World} {m : DiskM} {d : DiskD} {lv ev : Value} {lo : Option Nat} {lg : Option LogD} {mr : RM} {r : RefD} {v : Value} {L : RLog} (o : Op19) (hpb : PB19 w0 w m d lv ev lo lg mr r v L) (ho : Op19Ok w0 o) (hfw : Few19 o) (h3 : o.kind ≠ 3) (hr : d.room + 40000 ≤ 100000) (hst : r.steps + 60000 ≤ 1000000000) (hop : r.opn.length + 25000 ≤ 50000) (hpl : r.plan.length + 1 ≤ 50000) (hN : d.sec.length ≤ 1000) (hN2 : r.sec.length ≤ 1000) :
  Calls Tryz.prog 9 #[.agg (prC m.g lv ev mr r v L), .agg (opC19 o).toArray] w fun e w' => ∃ m' lv' ev' lo' mr' v' vp b, e = .returned (.tuple #[.agg (prC m'.g lv' ev' mr' (opR19 r L o vp).1 v' (opR19 r L o vp).2), .bool b]) ∧ m'.g = m.g ∧ XR19 w0 w w' m lo mr r v m' (opD19 d lg o).1 lv' ev' lo' (opD19 d lg o).2 mr' (opR19 r L o vp).1 v' (opR19 r L o vp).2 := by
 have hlenP : ∀ g lv ev m r v L, (Tryz.prog.info? 39).map (·.size) = some (prC g lv ev m r v L).toList.length := fun _ _ _ _ _ _ _ => prI
 have hlenD : ∀ m r, (Tryz.prog.info? 31).map (·.size) = some (refC m r).toList.length := fun _ _ => refI
 have hlenL : ∀ v L, (Tryz.prog.info? 37).map (·.size) = some (rlC v L).toList.length := fun _ _ => rlI
 obtain ⟨w1, hw1⟩ : ∃ w1, w1 = ((w.alloc (.cells (prC m.g lv ev mr r v L) 39)).alloc (.cells (opC19 o).toArray 46)).alloc (.cells prZ 39) := ⟨_, rfl⟩
 have hb1 : Below w.heap.size w w1 := by rw [hw1]; exact bstep (bstep (bel1 _ _) (bel1 _ _)) (bel1 _ _)
 have h0w := hpb.st.bel.size
 obtain ⟨glx, hglx⟩ : ∃ glx, lo = some glx ∨ (lo = none ∧ w.heap.size ≤ glx) := by
  cases lo with
  | none => exact ⟨w.heap.size, .inr ⟨rfl, Nat.le_refl _⟩⟩
  | some g => exact ⟨g, .inl rfl⟩
 have HX : Hid (PX19 w0 w w1 m lo mr r v glx m d lv ev lo lg mr r v L (prC m.g lv ev mr r v L) prZ o) := Lib.hid ⟨⟨hpb.keep hb1, by rw [hw1]; exact ((Blk.new _ _ _).alloc _).alloc _, by rw [hw1]; exact Blk.newAt _ _ _ _ (by simp), Free.fresh hpb (by omega), Free.fresh hpb (by omega), LT.of_below hb1, fun b hb => .inl hb, fun b _ e => e, ⟨by omega, by omega, by omega, h0w⟩, hglx⟩, by rw [hw1]; exact (Blk.newAt _ _ _ _ (by simp)).alloc _, Free.fresh hpb (by omega)⟩
 have HO := Lib.hid ho
 have HFW := Lib.hid hfw
 have hel := entP_length o.ent ho.ent
 have hqi : (Tryz.prog.info? 43).map (·.size) = some (entP o.ent).length := by rw [hel]; kernel_rfl
 obtain ⟨c0, c1, c2, cE, cm, cc⟩ := op_cells19 ho.ent HX.out.bo
 obtain ⟨Am, nm, em⟩ := ho.more.slc9
 obtain ⟨Ac, nc, ec⟩ := ho.cuts.slc9
 rw [em] at cm
 rw [ec] at cc
 have HMO : Hid (∀ W, Below w0.heap.size w0 W → Sn W 33 (.slice Am o.more.length nm) o.more.length (o.more.flatMap entP)) := jz (fun W hb => by rw [← em]; exact ho.more.below hb)
 have HCU : Hid (∀ W, Below w0.heap.size w0 W → Sn W 1 (.slice Ac o.cuts.length nc) o.cuts.length (i64s o.cuts)) := jz (fun W hb => by rw [← ec]; exact ho.cuts.below hb)
 have HEM := Lib.hid em
 have HEC := Lib.hid ec
 have hk64 := ho.kind
 have hp64 : isI64 o.pos := ho.pos
 have hpos1 : -9223372036854775808 ≤ o.pos := hp64.1
 have hpos2 : o.pos ≤ 1048576 := hfw.2.2.2
 have hm20 : o.more.length ≤ 20 := hfw.2.1
 have hc20 : o.cuts.length ≤ 20 := hfw.1
 have hrd := pr_disk HX.out.x.b1
 have hrl := pr_log HX.out.x.b1
 have HQ3 := Lib.hid h3
 obtain ⟨N, hN'⟩ : ∃ N, N = w.heap.size := ⟨_, rfl⟩
 have HNN := Lib.hid hN'
 clear hb1 hpb hglx h0w ho hfw em ec hk64 h3
 go_enter Tryz.func9, Tryz.ntmps9
 go_upto_region 1 with (refine al 39 prZ rfl rfl zeroPr ?_)
 rw [← hw1]
 clear hw1 hN'
 rcases Bool.eq_false_or_eq_true (o.kind == 0) with t0 | t0
 ·have hk : o.kind = 0 := by simpa using t0
  have HV : Hid (opD19 d lg o = appO d lg o.ent ∧ ∀ vp, opR19 r L o vp = (rappD r L o.ent, rappL r L o.ent)) := Lib.hid ⟨by unfold opD19; rw [if_pos hk], fun vp => by unfold opR19; rw [if_pos hk]⟩
  have HP := jz (ref19_append mr r v L o.ent w1 HX.out.x.pb.rk HX.out.x.pb.rl HO.out.ent (by omega) (by omega))
  obtain ⟨r2, hr2⟩ : ∃ x, x = rappD r L o.ent := ⟨_, rfl⟩
  obtain ⟨L2, hL2⟩ : ∃ x, x = rappL r L o.ent := ⟨_, rfl⟩
  obtain ⟨c, hc⟩ : ∃ x, x = rappA r L o.ent := ⟨_, rfl⟩
  rw [← hr2, ← hL2, ← hc] at HP
  rw [← hr2, ← hL2] at HV
  clear hk hr2 hL2 hc
  go_upto_region 5 with (first
   | (refine ld 31 _ rfl rfl rfl hrd Tryz.underlying31 rfl (hlenD _ _) ?_)
   | (refine ld 37 _ rfl rfl rfl hrl Tryz.underlying37 rfl (hlenL _ _) ?_)
   | (refine ld 43 _ rfl rfl rfl cE Tryz.underlying43 rfl hqi ?_)
   | (go_at_call 23; refine HP.out.mono ?_; rintro e w2 ⟨mr2, v2, rfl, hk2, hl2, hb2, hsub, hvs⟩; have HX2 := jz (HX.out.ref hb2 hk2 hl2 hsub hvs); have HA2 := jz (HX.out.x.b1.keep hb2); clear hk2 hl2 hb2 hsub hvs)
   | (refine stPartM 31 (.tmp 23) (.tmp 20) rfl rfl [.pointer (some ⟨m.g, 0, none⟩), lv, ev] (refC mr r).toList (rlC v L).toList (refC mr2 r2).toList (by rfl) (by rfl) HA2.out (hlenD _ _) rfl (list_oneO (refC_one HX2.out.x.pb.rk)) ?_; intro w3 hB3 ho3 hz3; have HB3 := Lib.hid hB3; have HO3 := jz (ho3.allO hz3); clear hB3 ho3 hz3)
   | (refine stPartM 37 (.tmp 24) (.tmp 21) rfl rfl ([.pointer (some ⟨m.g, 0, none⟩), lv, ev] ++ (refC mr2 r2).toList) (rlC v L).toList [] (rlC v2 L2).toList (by rfl) (by rfl) (by have h := HB3.out; rw [List.append_nil]; exact h) (hlenL _ _) rfl (list_oneO (rlC_one HX2.out.x.pb.rl)) ?_; intro w4 hB4 ho4 hz4; have HB4 := Lib.hid hB4; have HO4 := jz (ho4.allO hz4); clear hB4 ho4 hz4))
  have HX4 : Hid (PX19 w0 w w4 m lo mr r v glx m d lv ev lo lg mr2 r2 v2 L2 (prC m.g lv ev mr2 r2 v2 L2) prZ o) := jz ((HX2.out.st1 HB3.out HO3.out.2 HO3.out.1).st1 (by have h := HB4.out; rw [List.append_nil] at h; exact h) HO4.out.2 HO4.out.1)
  clear HA2 HB3 HO3 HB4 HO4 HX2 HP hrd hrl c0 c1 c2 cE cm cc
  obtain ⟨wS, hwS⟩ : ∃ wS, wS = w4.drew := ⟨_, rfl⟩
  have hbS : Below w4.heap.size w4 wS := by rw [hwS]; exact (Below.refl _ _).drew
  have HXS := jz (HX4.out.keep hbS)
  clear hbS HX4
  have HLV : Hid (∀ W, Blk W (w.heap.size) 39 (prC m.g lv ev mr2 r2 v2 L2) → W.cell? ⟨w.heap.size, 1, none⟩ = some lv) := jz (fun W hB => (hB.cell 1).trans rfl)
  refine held_start 11 (fun W => Blk W (w.heap.size) 39 (prC m.g lv ev mr2 r2 v2 L2) ∧ Blk W (w.heap.size + 1) 46 (opC19 o).toArray) (by kernel_rfl) (by kernel_rfl) (by rw [← hwS]; exact ⟨HXS.out.x.b1, HXS.out.bo⟩) (fun hHeld => ?_)
  rw [← hwS] at hHeld ⊢
  clear hwS
  refine jL 0 39 (.tmp 2) (some 25) (cs := (prC m.g lv ev mr2 r2 v2 L2).toList) (fun _ hX => hX.1.range) Tryz.underlying39 rfl (hlenP _ _ _ _ _ _ _) hHeld ?_
  simp only [j1, j2, j3, j4, j5]
  refine jT 1 (.fieldAddr 39 (.tmp 2) 1) (some 26) (.pointer (some ⟨w.heap.size, 1, none⟩)) hHeld ?_
  simp only [j1, j2, j3, j4, j5]
  refine jT 2 (.load 33 (.tmp 26)) (some 27) (lv) (hy := fun o ho wX hX => by have hcell := HLV.out _ hX.1; unfold execOp; simp only [ho]; go_simp) hHeld ?_
  simp only [j1, j2, j3, j4, j5]
  refine jT 3 (.fieldAddr 46 (.tmp 3) 3) (some 28) (.pointer (some ⟨w.heap.size + 1, 3, none⟩)) hHeld ?_
  simp only [j1, j2, j3, j4, j5]
  refine jL 4 43 (.tmp 28) (some 29) (cs := entP o.ent) (fun _ hX => (op_cells19 HO.out.ent hX.2).2.2.2.1) Tryz.underlying43 rfl hqi hHeld ?_
  simp only [j1, j2, j3, j4, j5]
  refine jM 7 (.tmp 6) (some 32) (.int .i64 c) hHeld ?_
  simp only [j1, j2, j3, j4, j5]
  refine jW [5] ?_
  refine jC 5 (.call { callee := .value (.func 19), args := #[.tmp 27, .tmp 29], argTypes := #[33, 43] }) (some 30) 19 (#[lv, .agg (entP o.ent).toArray]) ?_ jN
  refine (pr_append o.ent HXS.out.x.pb HO.out.ent (by omega)).mono ?_
  rintro e w6 ⟨x, m6, gl6, rfl, hcx, hg6, hst6, ht6, hgl6, hlo6⟩
  have HX6 := jz (HXS.out.log hst6 ht6 hgl6 hlo6 (fun _ _ e => e))
  have HCX := Lib.hid hcx
  have HG6 := Lib.hid hg6
  clear hcx hg6 hst6 ht6 hgl6 hlo6
  refine ⟨_, rfl, ⟨HX6.out.x.b1, HX6.out.bo⟩, fun hHeld => ?_⟩
  simp only [j1, j2, j3, j4, j5]
  refine jW [6] ?_
  refine jC 6 (.call { callee := .value (.func 22), args := #[.tmp 30], argTypes := #[53] }) (some 31) 22 (#[valE x]) ?_ jN
  refine (code19 x w6 HCX.out).mono ?_
  rintro e w7 ⟨rfl, hb7⟩
  have HX7 := jz (HX6.out.keep hb7)
  clear hb7
  refine ⟨_, rfl, ⟨HX7.out.x.b1, HX7.out.bo⟩, fun hHeld => ?_⟩
  simp only [j1, j2, j3, j4, j5]
  refine jT 8 (.binOp .eql 3 (.tmp 31) (.tmp 32) 3) (some 33) (.bool (codeA x == c)) hHeld ?_
  simp only [j1, j2, j3, j4, j5]
  have hoth : ∀ k, k ≠ w.heap.size + 2 → (w7.setCells (w.heap.size + 2) 0 (prC m.g lv ev mr2 r2 v2 L2).toList).heap[k]? = w7.heap[k]? := fun k hk => setCells_other hk _ _ _
  have HX8 : Hid (PX19 w0 w (w7.setCells (w.heap.size + 2) 0 (prC m.g lv ev mr2 r2 v2 L2).toList) m lo mr r v glx m6 _ lv ev lo _ mr2 r2 v2 L2 (prC m.g lv ev mr2 r2 v2 L2) (prC m.g lv ev mr2 r2 v2 L2) o) := jz (HX7.out.st2 (Blk.setAll _ HX7.out.x.b2 rfl) (setCells_below (Nat.le_refl _) _ _ _).1 hoth)
  have hSS : (fun W => Blk W (w.heap.size) 39 (prC m.g lv ev mr2 r2 v2 L2) ∧ Blk W (w.heap.size + 1) 46 (opC19 o).toArray) (w7.setCells (w.heap.size + 2) 0 (prC m.g lv ev mr2 r2 v2 L2).toList) := ⟨HX8.out.x.b1, HX8.out.bo⟩
  refine jW [9] ?_
  refine jR 9 39 (.tmp 4) (.tmp 25) none (cs := (prC m.g lv ev mr2 r2 v2 L2).toList) (there_all HX7.out.x.b2 rfl) (hlenP _ _ _ _ _ _ _) (list_oneO (prC_one HX6.out.x.pb)) hSS ?_ jN
  simp only [j1, j2, j3, j4, j5]
  refine jW [10] ?_
  refine jS 10 (.assign (.tmp 33)) (some 5) (.bool (codeA x == c)) (w7.setCells (w.heap.size + 2) 0 (prC m.g lv ev mr2 r2 v2 L2).toList) hSS ?_ jN
  simp only [j1, j2, j3, j4, j5]
  refine wpAnyH_done (by kernel_rfl) ?_ _
  obtain ⟨wz, hwz⟩ : ∃ wz, wz = (w7.setCells (w.heap.size + 2) 0 (prC m.g lv ev mr2 r2 v2 L2).toList) := ⟨_, rfl⟩
  rw [← hwz] at HX8 ⊢
  clear hwz hSS hoth
  go_wp2_with fail
  have hrz := HX8.out.x.b2.range
  exact bodyPost_ret (results_cell1 rfl _ rfl hrz Tryz.underlying39 rfl (hlenP _ _ _ _ _ _ _)) rfl ⟨m6, lv, ev, lo, mr2, v2, .nilIface, (codeA x == c), by rw [HV.out.2, HG6.out]; rfl, HG6.out, by rw [HV.out.1, HV.out.2]; exact HX8.out.x.ret⟩
 rcases Bool.eq_false_or_eq_true (o.kind == 1) with t1 | t1
 ·have n0 : ¬ o.kind = 0 := by simpa using t0
  have hk : o.kind = 1 := by simpa using t1
  have HV : Hid (opD19 d lg o = rewO d lg o.more ∧ ∀ vp, opR19 r L o vp = ((rrewR r L o.more).1, (rrewR r L o.more).2.1)) := Lib.hid ⟨by unfold opD19; rw [if_neg n0, if_pos hk], fun vp => by unfold opR19; rw [if_neg n0, if_pos hk]⟩
  have HP := jz (ref19_rewrite mr r v L o.more Am nm w1 HX.out.x.pb.rk HX.out.x.pb.rl (HMO.out w1 HX.out.x.pb.st.bel) HO.out.mok (by omega) (by omega) (by omega) (by omega))
  obtain ⟨⟨r2, L2, c⟩, hrr⟩ : ∃ x, x = rrewR r L o.more := ⟨_, rfl⟩
  rw [← hrr] at HP HV
  simp only at HP HV
  clear hk n0 hrr
  go_upto_region 8 with (first
   | (refine ld 31 _ rfl rfl rfl hrd Tryz.underlying31 rfl (hlenD _ _) ?_)
   | (refine ld 37 _ rfl rfl rfl hrl Tryz.underlying37 rfl (hlenL _ _) ?_)
   | (go_at_call 24; refine HP.out.mono ?_; rintro e w2 ⟨mr2, v2, rfl, hk2, hl2, hb2, hsub, hvs⟩; have HX2 := jz (HX.out.ref hb2 hk2 hl2 hsub hvs); have HA2 := jz (HX.out.x.b1.keep hb2); clear hk2 hl2 hb2 hsub hvs)
   | (refine stPartM 31 (.tmp 47) (.tmp 44) rfl rfl [.pointer (some ⟨m.g, 0, none⟩), lv, ev] (refC mr r).toList (rlC v L).toList (refC mr2 r2).toList (by rfl) (by rfl) HA2.out (hlenD _ _) rfl (list_oneO (refC_one HX2.out.x.pb.rk)) ?_; intro w3 hB3 ho3 hz3; have HB3 := Lib.hid hB3; have HO3 := jz (ho3.allO hz3); clear hB3 ho3 hz3)
   | (refine stPartM 37 (.tmp 48) (.tmp 45) rfl rfl ([.pointer (some ⟨m.g, 0, none⟩), lv, ev] ++ (refC mr2 r2).toList) (rlC v L).toList [] (rlC v2 L2).toList (by rfl) (by rfl) (by have h := HB3.out; rw [List.append_nil]; exact h) (hlenL _ _) rfl (list_oneO (rlC_one HX2.out.x.pb.rl)) ?_; intro w4 hB4 ho4 hz4; have HB4 := Lib.hid hB4; have HO4 := jz (ho4.allO hz4); clear hB4 ho4 hz4))
  have HX4 : Hid (PX19 w0 w w4 m lo mr r v glx m d lv ev lo lg mr2 r2 v2 L2 (prC m.g lv ev mr2 r2 v2 L2) prZ o) := jz ((HX2.out.st1 HB3.out HO3.out.2 HO3.out.1).st1 (by have h := HB4.out; rw [List.append_nil] at h; exact h) HO4.out.2 HO4.out.1)
  clear HA2 HB3 HO3 HB4 HO4 HX2 HP hrd hrl c0 c1 c2 cE cm cc
  obtain ⟨wS, hwS⟩ : ∃ wS, wS = w4.drew := ⟨_, rfl⟩
  have hbS : Below w4.heap.size w4 wS := by rw [hwS]; exact (Below.refl _ _).drew
  have HXS := jz (HX4.out.keep hbS)
  clear hbS HX4
  have HLV : Hid (∀ W, Blk W (w.heap.size) 39 (prC m.g lv ev mr2 r2 v2 L2) → W.cell? ⟨w.heap.size, 1, none⟩ = some lv) := jz (fun W hB => (hB.cell 1).trans rfl)
  refine held_start 11 (fun W => Blk W (w.heap.size) 39 (prC m.g lv ev mr2 r2 v2 L2) ∧ Blk W (w.heap.size + 1) 46 (opC19 o).toArray) (by kernel_rfl) (by kernel_rfl) (by rw [← hwS]; exact ⟨HXS.out.x.b1, HXS.out.bo⟩) (fun hHeld => ?_)
  rw [← hwS] at hHeld ⊢
  clear hwS
  refine jL 0 39 (.tmp 2) (some 49) (cs := (prC m.g lv ev mr2 r2 v2 L2).toList) (fun _ hX => hX.1.range) Tryz.underlying39 rfl (hlenP _ _ _ _ _ _ _) hHeld ?_
  simp only [j1, j2, j3, j4, j5]
  refine jT 1 (.fieldAddr 39 (.tmp 2) 1) (some 50) (.pointer (some ⟨w.heap.size, 1, none⟩)) hHeld ?_
  simp only [j1, j2, j3, j4, j5]
  refine jT 2 (.load 33 (.tmp 50)) (some 51) (lv) (hy := fun o ho wX hX => by have hcell := HLV.out _ hX.1; unfold execOp; simp only [ho]; go_simp) hHeld ?_
  simp only [j1, j2, j3, j4, j5]
  refine jT 3 (.fieldAddr 46 (.tmp 3) 4) (some 52) (.pointer (some ⟨w.heap.size + 1, 36, none⟩)) hHeld ?_
  simp only [j1, j2, j3, j4, j5]
  refine jT 4 (.load 34 (.tmp 52)) (some 53) (.slice Am o.more.length nm) (hy := fun o ho wX hX => by have hcell := (op_cells19 HO.out.ent hX.2).2.2.2.2.1; rw [HEM.out] at hcell; unfold execOp; simp only [ho]; go_simp) hHeld ?_
  simp only [j1, j2, j3, j4, j5]
  refine jM 7 (.tmp 6) (some 56) (.int .i64 c) hHeld ?_
  simp only [j1, j2, j3, j4, j5]
  refine jW [5] ?_
  refine jC 5 (.call { callee := .value (.func 18), args := #[.tmp 51, .tmp 53], argTypes := #[33, 34] }) (some 54) 18 (#[lv, .slice Am o.more.length nm]) ?_ jN
  refine (pr_rewrite o.more Am nm HXS.out.x.pb (HMO.out wS HXS.out.x.pb.st.bel) HO.out.mok (by omega) (by omega)).mono ?_
  rintro e w6 ⟨x, m6, gl6, rfl, hcx, hg6, hst6, ht6, hgl6, hlo6⟩
  have HX6 := jz (HXS.out.log hst6 ht6 hgl6 hlo6 (fun _ _ e => e))
  have HCX := Lib.hid hcx
  have HG6 := Lib.hid hg6
  clear hcx hg6 hst6 ht6 hgl6 hlo6
  refine ⟨_, rfl, ⟨HX6.out.x.b1, HX6.out.bo⟩, fun hHeld => ?_⟩
  simp only [j1, j2, j3, j4, j5]
  refine jW [6] ?_
  refine jC 6 (.call { callee := .value (.func 22), args := #[.tmp 54], argTypes := #[53] }) (some 55) 22 (#[valE x]) ?_ jN
  refine (code19 x w6 HCX.out).mono ?_
  rintro e w7 ⟨rfl, hb7⟩
  have HX7 := jz (HX6.out.keep hb7)
  clear hb7
  refine ⟨_, rfl, ⟨HX7.out.x.b1, HX7.out.bo⟩, fun hHeld => ?_⟩
  simp only [j1, j2, j3, j4, j5]
  refine jT 8 (.binOp .eql 3 (.tmp 55) (.tmp 56) 3) (some 57) (.bool (codeA x == c)) hHeld ?_
  simp only [j1, j2, j3, j4, j5]
  have hoth : ∀ k, k ≠ w.heap.size + 2 → (w7.setCells (w.heap.size + 2) 0 (prC m.g lv ev mr2 r2 v2 L2).toList).heap[k]? = w7.heap[k]? := fun k hk => setCells_other hk _ _ _
  have HX8 : Hid (PX19 w0 w (w7.setCells (w.heap.size + 2) 0 (prC m.g lv ev mr2 r2 v2 L2).toList) m lo mr r v glx m6 _ lv ev lo _ mr2 r2 v2 L2 (prC m.g lv ev mr2 r2 v2 L2) (prC m.g lv ev mr2 r2 v2 L2) o) := jz (HX7.out.st2 (Blk.setAll _ HX7.out.x.b2 rfl) (setCells_below (Nat.le_refl _) _ _ _).1 hoth)
  have hSS : (fun W => Blk W (w.heap.size) 39 (prC m.g lv ev mr2 r2 v2 L2) ∧ Blk W (w.heap.size + 1) 46 (opC19 o).toArray) (w7.setCells (w.heap.size + 2) 0 (prC m.g lv ev mr2 r2 v2 L2).toList) := ⟨HX8.out.x.b1, HX8.out.bo⟩
  refine jW [9] ?_
  refine jR 9 39 (.tmp 4) (.tmp 49) none (cs := (prC m.g lv ev mr2 r2 v2 L2).toList) (there_all HX7.out.x.b2 rfl) (hlenP _ _ _ _ _ _ _) (list_oneO (prC_one HX6.out.x.pb)) hSS ?_ jN
  simp only [j1, j2, j3, j4, j5]
  refine jW [10] ?_
  refine jS 10 (.assign (.tmp 57)) (some 5) (.bool (codeA x == c)) (w7.setCells (w.heap.size + 2) 0 (prC m.g lv ev mr2 r2 v2 L2).toList) hSS ?_ jN
  simp only [j1, j2, j3, j4, j5]
  refine wpAnyH_done (by kernel_rfl) ?_ _
  obtain ⟨wz, hwz⟩ : ∃ wz, wz = (w7.setCells (w.heap.size + 2) 0 (prC m.g lv ev mr2 r2 v2 L2).toList) := ⟨_, rfl⟩
  rw [← hwz] at HX8 ⊢
  clear hwz hSS hoth
  go_wp2_with fail
  have hrz := HX8.out.x.b2.range
  exact bodyPost_ret (results_cell1 rfl _ rfl hrz Tryz.underlying39 rfl (hlenP _ _ _ _ _ _ _)) rfl ⟨m6, lv, ev, lo, mr2, v2, .nilIface, (codeA x == c), by rw [HV.out.2, HG6.out]; rfl, HG6.out, by rw [HV.out.1, HV.out.2]; exact HX8.out.x.ret⟩
 rcases Bool.eq_false_or_eq_true (o.kind == 2) with t2 | t2
 ·have n0 : ¬ o.kind = 0 := by simpa using t0
  have n1 : ¬ o.kind = 1 := by simpa using t1
  have hk : o.kind = 2 := by simpa using t2
  have HV : Hid (opD19 d lg o = ((openR d).2.1, (openR d).2.2.map (·.1)) ∧ ∀ vp, opR19 r L o vp = ((ropenR r).1, (ropenR r).2.1)) := Lib.hid ⟨by unfold opD19; rw [if_neg n0, if_neg n1, if_pos hk], fun vp => by unfold opR19; rw [if_neg n0, if_neg n1, if_pos hk]⟩
  have HP := jz (open19 HX.out.x.pb (by omega) (by omega) (by omega) hN hN2)
  have hrp := HX.out.x.b1.range
  clear hk n0 n1
  go_wp2_with (first
   | (refine ld 39 _ rfl rfl rfl hrp Tryz.underlying39 rfl (hlenP _ _ _ _ _ _ _) ?_)
   | (go_at_call 25; refine HP.out.mono ?_; rintro e w5 ⟨m5, lv5, ev5, lo5, mr5, v5, b5, rfl, hg5, hx5⟩; have HX5 := jz (HX.out.xr hx5); have HG5 := Lib.hid hg5; clear hx5 hg5)
   | (refine stBlk (cells := prC m5.g lv5 ev5 mr5 _ v5 _) 39 (.tmp 4) (.tmp 62) rfl rfl rfl rfl HX5.out.x.b2 prI rfl (prC_one HX5.out.x.pb) ?_; intro w6 hB6 hb6 ho6 hs6; have HX6 := jz (HX5.out.st2 hB6 hb6 ho6); clear hB6 hb6 ho6 hs6))
  have hrz := HX6.out.x.b2.range
  exact bodyPost_ret (results_cell1 rfl _ rfl hrz Tryz.underlying39 rfl (hlenP _ _ _ _ _ _ _)) rfl ⟨m5, lv5, ev5, lo5, mr5, v5, .nilIface, b5, by rw [HV.out.2]; rfl, HG5.out, by rw [HV.out.1, HV.out.2]; exact HX6.out.x.ret⟩
 rcases Bool.eq_false_or_eq_true (o.kind == 4) with t4 | t4
 ·have n0 : ¬ o.kind = 0 := by simpa using t0
  have n1 : ¬ o.kind = 1 := by simpa using t1
  have n2 : ¬ o.kind = 2 := by simpa using t2
  have hk : o.kind = 4 := by simpa using t4
  have HV : Hid (opD19 d lg o = (planF d o.pos, lg) ∧ ∀ vp, opR19 r L o vp = (rplanD r o.pos false [] vp, L)) := Lib.hid ⟨by unfold opD19; rw [if_neg n0, if_neg n1, if_neg n2, if_neg HQ3.out, if_pos hk], fun vp => by unfold opR19; rw [if_neg n0, if_neg n1, if_neg n2, if_neg HQ3.out, if_pos hk]⟩
  have n3 : (o.kind == 3) = false := by have := HQ3.out; simpa using this
  have HFL := jz (disk_fail o.pos w1 m d HX.out.x.pb.st.dk (by omega) (by omega))
  have HLN : Hid ((planF d o.pos).sec.length = d.sec.length) := jz (by unfold planF; split <;> rfl)
  have c00 : w1.cell? ⟨w.heap.size, 0, none⟩ = some (.pointer (some ⟨m.g, 0, none⟩)) := (HX.out.x.b1.cell 0).trans rfl
  clear hk n0 n1 n2
  go_wp2_with fail
  refine HFL.out.mono ?_
  rintro e w2 ⟨rfl, m2, hk2, ht2⟩
  have HX2 := jz (HX.out.disk hk2 ht2 HLN.out)
  have HG2 : Hid (m2.g = m.g) := Lib.hid ht2.g
  clear hk2 ht2 HFL c00
  have hcs : Sn w2 1 (.slice none 0 0) 0 (i64s []) := ⟨none, 0, rfl, Nat.le_refl _, rfl, fun h => absurd h (by simp)⟩
  have HP := jz (ref_plan mr r o.pos false none 0 [] w2 HX2.out.x.pb.rk (by omega) hp64 hcs (fun c hc => by cases hc) (by simp) (by omega))
  clear hcs
  have hrd2 := pr_disk HX2.out.x.b1
  have cO := op_cells19 HO.out.ent HX2.out.bo
  have cp := cO.2.1
  have ccx := cO.2.2.2.2.2
  rw [HEC.out] at ccx
  clear cO hrd hrl c0 c1 c2 cE cm cc
  go_upto_region 20 with (first
   | (refine ld 31 _ rfl rfl rfl hrd2 Tryz.underlying31 rfl (hlenD _ _) ?_)
   | (go_at_call 31; refine HP.out.mono ?_; rintro e w3 ⟨mr3, vp, rfl, hk3, hb3, hs3⟩; have HX3 := jz (HX2.out.refD hb3 hk3 hs3); have HA3 := jz (HX2.out.x.b1.keep hb3); clear hk3 hb3 hs3)
   | (refine stPartM 31 (.tmp 113) (.tmp 112) rfl rfl [.pointer (some ⟨m.g, 0, none⟩), lv, ev] (refC mr r).toList (rlC v L).toList (refC mr3 (rplanD r o.pos false [] vp)).toList (by rfl) (by rfl) HA3.out (hlenD _ _) rfl (list_oneO (refC_one HX3.out.x.pb.rk)) ?_; intro w4 hB4 ho4 hz4; have HB4 := Lib.hid hB4; have HO4 := jz (ho4.allO hz4); clear hB4 ho4 hz4))
  have HX4 : Hid (PX19 w0 w w4 m lo mr r v glx m2 _ lv ev lo lg mr3 (rplanD r o.pos false [] vp) v L (prC m.g lv ev mr3 (rplanD r o.pos false [] vp) v L) prZ o) := jz (HX3.out.st1 HB4.out HO4.out.2 HO4.out.1)
  have hrp := HX4.out.x.b1.range
  have hone4 := prC_one (g := m.g) HX4.out.x.pb
  clear HA3 HB4 HO4 HX3 hrd2 cp ccx HP
  go_wp2_with (first
   | (refine ld 39 _ rfl rfl rfl hrp Tryz.underlying39 rfl (hlenP _ _ _ _ _ _ _) ?_)
   | (refine stBlk (cells := prC m.g lv ev mr3 (rplanD r o.pos false [] vp) v L) 39 (.tmp 4) (.tmp 114) rfl rfl rfl rfl HX4.out.x.b2 prI rfl hone4 ?_; intro w6 hB6 hb6 ho6 hs6; have HX6 := jz (HX4.out.st2 hB6 hb6 ho6); clear hB6 hb6 ho6 hs6))
  have hrz := HX6.out.x.b2.range
  exact bodyPost_ret (results_cell1 rfl _ rfl hrz Tryz.underlying39 rfl (hlenP _ _ _ _ _ _ _)) rfl ⟨m2, lv, ev, lo, mr3, v, vp, true, by rw [HV.out.2, HG2.out]; rfl, HG2.out, by rw [HV.out.1, HV.out.2]; exact HX6.out.x.ret⟩
 rcases Bool.eq_false_or_eq_true (o.kind == 5) with t5 | t5
 ·have n0 : ¬ o.kind = 0 := by simpa using t0
  have n1 : ¬ o.kind = 1 := by simpa using t1
  have n2 : ¬ o.kind = 2 := by simpa using t2
  have n4 : ¬ o.kind = 4 := by simpa using t4
  have hk : o.kind = 5 := by simpa using t5
  have HV : Hid (opD19 d lg o = (planC d o.pos o.cuts, lg) ∧ ∀ vp, opR19 r L o vp = (rplanD r o.pos true o.cuts vp, L)) := Lib.hid ⟨by unfold opD19; rw [if_neg n0, if_neg n1, if_neg n2, if_neg HQ3.out, if_neg n4, if_pos hk], fun vp => by unfold opR19; rw [if_neg n0, if_neg n1, if_neg n2, if_neg HQ3.out, if_neg n4, if_pos hk]⟩
  have n3 : (o.kind == 3) = false := by have := HQ3.out; simpa using this
  have HFL := jz (disk_crashAt o.pos (.slice Ac o.cuts.length nc) o.cuts w1 m d HX.out.x.pb.st.dk (HCU.out w1 HX.out.x.pb.st.bel) (by omega) (by omega) (by omega))
  have HLN : Hid ((planC d o.pos o.cuts).sec.length = d.sec.length) := jz (by unfold planC; split <;> rfl)
  have c00 : w1.cell? ⟨w.heap.size, 0, none⟩ = some (.pointer (some ⟨m.g, 0, none⟩)) := (HX.out.x.b1.cell 0).trans rfl
  clear hk n0 n1 n2 n4
  go_wp2_with fail
  refine HFL.out.mono ?_
  rintro e w2 ⟨rfl, m2, hk2, ht2⟩
  have HX2 := jz (HX.out.disk hk2 ht2 HLN.out)
  have HG2 : Hid (m2.g = m.g) := Lib.hid ht2.g
  clear hk2 ht2 HFL c00
  have HP := jz (ref_plan mr r o.pos true Ac nc o.cuts w2 HX2.out.x.pb.rk (by omega) hp64 (HCU.out w2 HX2.out.x.pb.st.bel) HO.out.cok (by omega) (by omega))
  have hrd2 := pr_disk HX2.out.x.b1
  have cO := op_cells19 HO.out.ent HX2.out.bo
  have cp := cO.2.1
  have ccx := cO.2.2.2.2.2
  rw [HEC.out] at ccx
  clear cO hrd hrl c0 c1 c2 cE cm cc
  go_upto_region 24 with (first
   | (refine ld 31 _ rfl rfl rfl hrd2 Tryz.underlying31 rfl (hlenD _ _) ?_)
   | (go_at_call 31; refine HP.out.mono ?_; rintro e w3 ⟨mr3, vp, rfl, hk3, hb3, hs3⟩; have HX3 := jz (HX2.out.refD hb3 hk3 hs3); have HA3 := jz (HX2.out.x.b1.keep hb3); clear hk3 hb3 hs3)
   | (refine stPartM 31 (.tmp 131) (.tmp 130) rfl rfl [.pointer (some ⟨m.g, 0, none⟩), lv, ev] (refC mr r).toList (rlC v L).toList (refC mr3 (rplanD r o.pos true o.cuts vp)).toList (by rfl) (by rfl) HA3.out (hlenD _ _) rfl (list_oneO (refC_one HX3.out.x.pb.rk)) ?_; intro w4 hB4 ho4 hz4; have HB4 := Lib.hid hB4; have HO4 := jz (ho4.allO hz4); clear hB4 ho4 hz4))
  have HX4 : Hid (PX19 w0 w w4 m lo mr r v glx m2 _ lv ev lo lg mr3 (rplanD r o.pos true o.cuts vp) v L (prC m.g lv ev mr3 (rplanD r o.pos true o.cuts vp) v L) prZ o) := jz (HX3.out.st1 HB4.out HO4.out.2 HO4.out.1)
  have hrp := HX4.out.x.b1.range
  have hone4 := prC_one (g := m.g) HX4.out.x.pb
  clear HA3 HB4 HO4 HX3 hrd2 cp ccx HP
  go_wp2_with (first
   | (refine ld 39 _ rfl rfl rfl hrp Tryz.underlying39 rfl (hlenP _ _ _ _ _ _ _) ?_)
   | (refine stBlk (cells := prC m.g lv ev mr3 (rplanD r o.pos true o.cuts vp) v L) 39 (.tmp 4) (.tmp 132) rfl rfl rfl rfl HX4.out.x.b2 prI rfl hone4 ?_; intro w6 hB6 hb6 ho6 hs6; have HX6 := jz (HX4.out.st2 hB6 hb6 ho6); clear hB6 hb6 ho6 hs6))
  have hrz := HX6.out.x.b2.range
  exact bodyPost_ret (results_cell1 rfl _ rfl hrz Tryz.underlying39 rfl (hlenP _ _ _ _ _ _ _)) rfl ⟨m2, lv, ev, lo, mr3, v, vp, true, by rw [HV.out.2, HG2.out]; rfl, HG2.out, by rw [HV.out.1, HV.out.2]; exact HX6.out.x.ret⟩
 rcases Bool.eq_false_or_eq_true (o.kind == 6) with t6 | t6
 ·have n0 : ¬ o.kind = 0 := by simpa using t0
  have n1 : ¬ o.kind = 1 := by simpa using t1
  have n2 : ¬ o.kind = 2 := by simpa using t2
  have n4 : ¬ o.kind = 4 := by simpa using t4
  have n5 : ¬ o.kind = 5 := by simpa using t5
  have hk : o.kind = 6 := by simpa using t6
  have HV : Hid (opD19 d lg o = (crashD d o.cuts, lg) ∧ ∀ vp, opR19 r L o vp = (rcrashD r o.cuts, L)) := Lib.hid ⟨by unfold opD19; rw [if_neg n0, if_neg n1, if_neg n2, if_neg HQ3.out, if_neg n4, if_neg n5, if_pos hk], fun vp => by unfold opR19; rw [if_neg n0, if_neg n1, if_neg n2, if_neg HQ3.out, if_neg n4, if_neg n5, if_pos hk]⟩
  have n3 : (o.kind == 3) = false := by have := HQ3.out; simpa using this
  have HFL := jz (disk_crash o.cuts Ac nc w1 m d HX.out.x.pb.st.dk (HCU.out w1 HX.out.x.pb.st.bel) (by omega))
  have HLN : Hid ((crashD d o.cuts).sec.length = d.sec.length) := jz (crashL_len _ _ _)
  have c00 : w1.cell? ⟨w.heap.size, 0, none⟩ = some (.pointer (some ⟨m.g, 0, none⟩)) := (HX.out.x.b1.cell 0).trans rfl
  clear hk n0 n1 n2 n4 n5
  go_wp2_with fail
  refine HFL.out.mono ?_
  rintro e w2 ⟨rfl, m2, hk2, ht2⟩
  have HX2 := jz (HX.out.disk hk2 ht2 HLN.out)
  have HG2 : Hid (m2.g = m.g) := Lib.hid ht2.g
  clear hk2 ht2 HFL c00
  have HP := jz (ref_crash mr r (.slice Ac o.cuts.length nc) o.cuts w2 HX2.out.x.pb.rk (HCU.out w2 HX2.out.x.pb.st.bel) HO.out.cok (by omega))
  have hrd2 := pr_disk HX2.out.x.b1
  have cO := op_cells19 HO.out.ent HX2.out.bo
  have cp := cO.2.1
  have ccx := cO.2.2.2.2.2
  rw [HEC.out] at ccx
  clear cO hrd hrl c0 c1 c2 cE cm cc
  go_upto_region 28 with (first
   | (refine ld 31 _ rfl rfl rfl hrd2 Tryz.underlying31 rfl (hlenD _ _) ?_)
   | (go_at_call 34; refine HP.out.mono ?_; rintro e w3 ⟨mr3, rfl, hk3, hb3, hs3⟩; have HX3 := jz (HX2.out.refD hb3 hk3 hs3); have HA3 := jz (HX2.out.x.b1.keep hb3); clear hk3 hb3 hs3)
   | (refine stPartM 31 (.tmp 145) (.tmp 144) rfl rfl [.pointer (some ⟨m.g, 0, none⟩), lv, ev] (refC mr r).toList (rlC v L).toList (refC mr3 (rcrashD r o.cuts)).toList (by rfl) (by rfl) HA3.out (hlenD _ _) rfl (list_oneO (refC_one HX3.out.x.pb.rk)) ?_; intro w4 hB4 ho4 hz4; have HB4 := Lib.hid hB4; have HO4 := jz (ho4.allO hz4); clear hB4 ho4 hz4))
  have HX4 : Hid (PX19 w0 w w4 m lo mr r v glx m2 _ lv ev lo lg mr3 (rcrashD r o.cuts) v L (prC m.g lv ev mr3 (rcrashD r o.cuts) v L) prZ o) := jz (HX3.out.st1 HB4.out HO4.out.2 HO4.out.1)
  have hrp := HX4.out.x.b1.range
  have hone4 := prC_one (g := m.g) HX4.out.x.pb
  clear HA3 HB4 HO4 HX3 hrd2 cp ccx HP
  go_wp2_with (first
   | (refine ld 39 _ rfl rfl rfl hrp Tryz.underlying39 rfl (hlenP _ _ _ _ _ _ _) ?_)
   | (refine stBlk (cells := prC m.g lv ev mr3 (rcrashD r o.cuts) v L) 39 (.tmp 4) (.tmp 146) rfl rfl rfl rfl HX4.out.x.b2 prI rfl hone4 ?_; intro w6 hB6 hb6 ho6 hs6; have HX6 := jz (HX4.out.st2 hB6 hb6 ho6); clear hB6 hb6 ho6 hs6))
  have hrz := HX6.out.x.b2.range
  exact bodyPost_ret (results_cell1 rfl _ rfl hrz Tryz.underlying39 rfl (hlenP _ _ _ _ _ _ _)) rfl ⟨m2, lv, ev, lo, mr3, v, .nilIface, true, by rw [HV.out.2, HG2.out]; rfl, HG2.out, by rw [HV.out.1, HV.out.2]; exact HX6.out.x.ret⟩
 ·have n0 : ¬ o.kind = 0 := by simpa using t0
  have n1 : ¬ o.kind = 1 := by simpa using t1
  have n2 : ¬ o.kind = 2 := by simpa using t2
  have n4 : ¬ o.kind = 4 := by simpa using t4
  have n5 : ¬ o.kind = 5 := by simpa using t5
  have n6 : ¬ o.kind = 6 := by simpa using t6
  have HV : Hid (opD19 d lg o = ((openR (startD d)).2.1, (openR (startD d)).2.2.map (·.1)) ∧ ∀ vp, opR19 r L o vp = ((ropenR (rupD r)).1, (ropenR (rupD r)).2.1)) := Lib.hid ⟨by unfold opD19; rw [if_neg n0, if_neg n1, if_neg n2, if_neg HQ3.out, if_neg n4, if_neg n5, if_neg n6], fun vp => by unfold opR19; rw [if_neg n0, if_neg n1, if_neg n2, if_neg HQ3.out, if_neg n4, if_neg n5, if_neg n6]⟩
  have n3 : (o.kind == 3) = false := by have := HQ3.out; simpa using this
  have HFL := jz (disk_start w1 m d HX.out.x.pb.st.dk)
  have c00 : w1.cell? ⟨w.heap.size, 0, none⟩ = some (.pointer (some ⟨m.g, 0, none⟩)) := (HX.out.x.b1.cell 0).trans rfl
  clear n0 n1 n2 n4 n5 n6
  go_wp2_with fail
  refine HFL.out.mono ?_
  rintro e w2 ⟨rfl, hk2, ht2⟩
  have HX2 := jz (HX.out.disk hk2 ht2 rfl)
  clear hk2 ht2 HFL c00
  have d5 : w2.cell? ⟨w.heap.size, 5, none⟩ = some (.bool r.down) := (HX2.out.x.b1.cell 5).trans rfl
  have f5 := HX2.out.x.b1.frozen 5
  have hgs := HX2.out.x.b1.lt
  go_upto_region 31 with fail
  obtain ⟨w3, hw3⟩ : ∃ W, W = w2.setCell ⟨w.heap.size, 5, none⟩ (.bool false) := ⟨_, rfl⟩
  have hB3 : Blk w3 w.heap.size 39 (prC m.g lv ev mr (rupD r) v L) := by rw [hw3]; exact HX2.out.x.b1.set_ 5 _
  have hX3 := HX2.out.st1 hB3 (by rw [hw3]; exact (Below.refl _ _).setCell (p := ⟨w.heap.size, 5, none⟩) (Nat.le_refl _) _) (fun k hk => by rw [hw3]; exact Below.heap_setCell w2 ⟨w.heap.size, 5, none⟩ _ k hk)
  have HX3 := jz (hX3.refD (r' := rupD r) (Below.refl _ _) (rk_up hX3.x.pb.rk) (fun b hb => .inl hb))
  rw [← hw3]
  have HP := jz (open19 HX3.out.x.pb (by show d.room + 20 ≤ 100000; omega) (by show r.steps + 20 ≤ 1000000000; omega) (by show r.opn.length + 20 ≤ 50000; omega) hN hN2)
  have hrp := HX3.out.x.b1.range
  clear hw3 hB3 hX3 d5 f5 hgs HX2
  go_wp2_with (first
   | (refine ld 39 _ rfl rfl rfl hrp Tryz.underlying39 rfl (hlenP _ _ _ _ _ _ _) ?_)
   | (go_at_call 25; refine HP.out.mono ?_; rintro e w5 ⟨m5, lv5, ev5, lo5, mr5, v5, b5, rfl, hg5, hx5⟩; have HX5 := jz (HX3.out.xr hx5); have HG5 := Lib.hid hg5; clear hx5 hg5)
   | (refine stBlk (cells := prC m5.g lv5 ev5 mr5 _ v5 _) 39 (.tmp 4) (.tmp 154) rfl rfl rfl rfl HX5.out.x.b2 prI rfl (prC_one HX5.out.x.pb) ?_; intro w6 hB6 hb6 ho6 hs6; have HX6 := jz (HX5.out.st2 hB6 hb6 ho6); clear hB6 hb6 ho6 hs6))
  have hrz := HX6.out.x.b2.range
  exact bodyPost_ret (results_cell1 rfl _ rfl hrz Tryz.underlying39 rfl (hlenP _ _ _ _ _ _ _)) rfl ⟨m5, lv5, ev5, lo5, mr5, v5, .nilIface, b5, by rw [HV.out.2]; rfl, HG5.out, by rw [HV.out.1, HV.out.2]; exact HX6.out.x.ret⟩
end Go.Proofs.YtillkpjflcgkeaaGreat
