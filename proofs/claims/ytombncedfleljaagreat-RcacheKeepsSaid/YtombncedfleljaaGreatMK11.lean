/- Parts: frame.Entry, of an entry that has a record. -/
import Derived.Test.YtombncedfleljaaGreatMK10
namespace Go.Proofs.YtombncedfleljaaGreat
open Go.RowKit
attribute [local irreducible] wpQuiet wpAnyH
set_option linter.unusedSimpArgs false

theorem sn_dig {w : World} {g : Nat} {t : TypeId} {q : List Int × Int} (h : Blk w g t (entP q).toArray) (hq : EntOk q) : Sn w 1 (.slice (some ⟨g, 0, none⟩) 32 32) 32 (u8s q.1) :=
  ⟨_, 32, rfl, Nat.le_refl _, by rw [u8s_length, hq.dig.len], fun _ => ⟨g, 0, rfl, fun j u hj => by
    rw [h.cell, Nat.zero_add]
    have hlt := (List.getElem?_eq_some_iff.1 hj).1
    simp only [List.getElem?_toArray, entP, entC]
    rw [List.getElem?_append_left hlt]
    exact hj⟩⟩
theorem cell_set {w : World} {a b o : Nat} {i : Nat} {v : Value} {vs : List Value} (h : w.cell? ⟨a, i, none⟩ = some v) (hne : a ≠ b := by omega) : (w.setCells b o vs).cell? ⟨a, i, none⟩ = some v :=
  (setCells_off b vs o w).cell h hne

set_option maxRecDepth 100000 in
set_option maxHeartbeats 4000000 in
theorem frame_entry_ok (g x : Nat) (q : List Int × Int) (w : World) (hq : EntOk q) (hx : q.2 = x) (hx62 : x ≤ 4611686018427387904) (hg : g < 4294967296) :
    Calls Tryz.prog 80 #[.int .u32 g, .agg (entP q).toArray] w fun e w' => e = .returned (.tuple #[.agg (u8s (rec g (q.1 ++ beB 8 x))).toArray, .bool true]) ∧ Below w.heap.size w w' := by
  have HQ := Lib.hid hq
  have HG := Lib.hid hg
  have hlq := entP_length q hq
  have HLN : Hid ((q.1 ++ beB 8 x).length = 40) := Lib.hid (by rw [List.length_append, beB_length, hq.dig.len])
  have HRL : Hid ((u8s (rec g (q.1 ++ beB 8 x))).length = 64) := Lib.hid (by rw [u8s_length, rec_length g _ (by rw [HLN.out]; omega)])
  have HBY : Hid (Bys (q.1 ++ beB 8 x)) := Lib.hid (fun b hb => by
    rcases List.mem_append.1 hb with hb | hb
    · exact hq.dig.byte b hb
    · exact beB_bys _ _ b hb)
  have HX8 : Hid (x < 256 ^ 8) := Lib.hid (by have e8 : (256 : Nat) ^ 8 = 18446744073709551616 := by decide
                                              omega)
  have hc2 : (0 : Int) ≤ q.2 := by omega
  have hc3 : q.2 ≤ 4611686018427387904 := by omega
  have hcv : IntKind.u64.wrap q.2 = (x : Int) := by rw [hx]; exact IntWalk.u64_in _ (by omega)
  obtain ⟨w1, hw1⟩ : ∃ w1, w1 = (w.alloc (.cells (entP q).toArray 35)).alloc (.cells z64 144) := ⟨_, rfl⟩
  have hB1 : Blk w1 w.heap.size 35 (entP q).toArray := by rw [hw1]; exact (Blk.new w _ _).alloc _
  have hB2 : Blk w1 (w.heap.size + 1) 144 z64 := by rw [hw1]; exact Blk.newAt _ _ _ _ (by simp)
  have hbw : Below w.heap.size w w1 := by rw [hw1]; exact ((Below.refl _ w).alloc (Nat.le_refl _) _).alloc (by simp) _
  have hcell : w1.cell? ⟨w.heap.size, 32, none⟩ = some (.int .i64 q.2) := by
    rw [hB1.cell]
    have h32 : (u8s q.1).length = 32 := by rw [u8s_length, hq.dig.len]
    simp only [List.getElem?_toArray, entP, entC]
    rw [List.getElem?_append_right (by omega), h32]
    rfl
  have HB1 : Hid (Blk w1.drew w.heap.size 35 (entP q).toArray) := Lib.hid hB1
  have HB2 : Hid (Blk w1.drew (w.heap.size + 1) 144 z64) := Lib.hid hB2
  have HBW : Hid (Below w.heap.size w w1.drew) := Lib.hid hbw.drew
  have HC1 : Hid (w1.drew.cell? ⟨w.heap.size, 32, none⟩ = some (.int .i64 q.2)) := Lib.hid hcell
  subst hw1
  clear hB1 hB2 hbw hq hg hx hx62
  go_enter Tryz.func80, Tryz.ntmps80
  go_wp2_with (refine al 144 z64 rfl rfl zero64 ?_)
  refine held_start 14 (fun w' => w'.cell? ⟨w.heap.size, 32, none⟩ = some (.int .i64 q.2)) (by kernel_rfl) (by kernel_rfl) (HC1.out) (fun hHeld => ?_)
  refine hMove 0 (Operand.tmp 0) (some 15) (.int .u32 g) (by kernel_rfl) (by kernel_rfl) (by kernel_rfl) (by kernel_rfl) (by kernel_rfl) (fun _ _ _ h => h) (by exact rfl) hHeld ?_
  simp only [Act.put, List.setIfInBounds_toArray, List.set_cons_zero, List.set_cons_succ]
  refine hTake 1 (Op.fieldAddr 35 (Operand.tmp 3) 0) (some 16) (.pointer (some ⟨w.heap.size, 0, none⟩)) (by kernel_rfl) (by kernel_rfl) (by kernel_rfl) (by kernel_rfl) (by kernel_rfl) (fun _ _ _ h => h) (fun o ho wX hX => by unfold execOp; simp only [ho]; go_simp) hHeld ?_
  simp only [Act.put, List.setIfInBounds_toArray, List.set_cons_zero, List.set_cons_succ]
  refine hTake 2 (Op.slice 33 (Operand.tmp 16) none none none) (some 17) (.slice (some ⟨w.heap.size, 0, none⟩) 32 32) (by kernel_rfl) (by kernel_rfl) (by kernel_rfl) (by kernel_rfl) (by kernel_rfl) (fun _ _ _ h => h) (fun o ho wX hX => by unfold execOp; simp only [ho]; go_simp) hHeld ?_
  simp only [Act.put, List.setIfInBounds_toArray, List.set_cons_zero, List.set_cons_succ]
  refine hTake 3 (Op.fieldAddr 35 (Operand.tmp 3) 1) (some 18) (.pointer (some ⟨w.heap.size, 32, none⟩)) (by kernel_rfl) (by kernel_rfl) (by kernel_rfl) (by kernel_rfl) (by kernel_rfl) (fun _ _ _ h => h) (fun o ho wX hX => by unfold execOp; simp only [ho]; go_simp) hHeld ?_
  simp only [Act.put, List.setIfInBounds_toArray, List.set_cons_zero, List.set_cons_succ]
  refine hTake 4 (Op.load 2 (Operand.tmp 18)) (some 19) (.int .i64 q.2) (by kernel_rfl) (by kernel_rfl) (by kernel_rfl) (by kernel_rfl) (by kernel_rfl) (fun _ _ _ h => h) (fun o ho wX hX => by unfold execOp; simp only [ho]; go_simp) hHeld ?_
  simp only [Act.put, List.setIfInBounds_toArray, List.set_cons_zero, List.set_cons_succ]
  refine hTake 5 (Op.convert 2 80 (Operand.tmp 19)) (some 20) (.int .u64 (x : Int)) (by kernel_rfl) (by kernel_rfl) (by kernel_rfl) (by kernel_rfl) (by kernel_rfl) (fun _ _ _ h => h) (fun o ho wX hX => by unfold execOp; simp only [ho]; go_simp) hHeld ?_
  simp only [Act.put, List.setIfInBounds_toArray, List.set_cons_zero, List.set_cons_succ]
  refine wpAnyH_ready (rs := [6]) (by kernel_rfl) (by simp) ?_
  refine rCall 6 (Op.call { callee := Callee.value (Operand.func 103), args := #[Operand.const (Value.int IntKind.i64 8), Operand.tmp 20], argTypes := #[3, 80] }) (some 21) 103 (#[.int .i64 8, .int .u64 x]) (by kernel_rfl) (by kernel_rfl) (fun o ho => by unfold execOp; simp only [ho]; go_simp) ?_ AllReadyH.nil
  refine (frame_number 8 x _ (by omega) (by omega) HX8.out).mono ?_
  rintro e w2 ⟨vv, rfl, hown2, hb2⟩
  obtain ⟨g2, c2, e2, _⟩ := hown2.form (by omega)
  subst e2
  refine ⟨_, rfl, Below.cell' hb2 hHeld, fun hHeld => ?_⟩
  simp only [Act.put, List.setIfInBounds_toArray, List.set_cons_zero, List.set_cons_succ]
  have hB2 := HB1.out.keep hb2
  have hB2r := HB2.out.keep hb2
  have hb20 := bstep HBW.out hb2
  have HPA : Hid (Parts (w2.alloc (.cells #[.slice (some ⟨w.heap.size, 0, none⟩) 32 32, .slice (some ⟨g2, 0, none⟩) 8 c2] 78)) (.slice (some ⟨w2.heap.size, 0, none⟩) 2 2) [(.slice (some ⟨w.heap.size, 0, none⟩) 32 32, q.1), (.slice (some ⟨g2, 0, none⟩) 8 c2, beB 8 x)]) := Lib.hid ⟨Sn.new w2 #[.slice (some ⟨w.heap.size, 0, none⟩) 32 32, .slice (some ⟨g2, 0, none⟩) 8 c2] 78 1 2 rfl, fun z hz => by
    simp only [List.mem_cons, List.not_mem_nil, or_false] at hz
    rcases hz with rfl | rfl
    · have := (sn_dig hB2 HQ.out).alloc (.cells #[.slice (some ⟨w.heap.size, 0, none⟩) 32 32, .slice (some ⟨g2, 0, none⟩) 8 c2] 78)
      rw [HQ.out.dig.len]
      exact this
    · have := (Sn.own hown2).alloc (.cells #[.slice (some ⟨w.heap.size, 0, none⟩) 32 32, .slice (some ⟨g2, 0, none⟩) 8 c2] 78)
      simp only [beB_length]
      exact this⟩
  have hcat : cat [(Value.slice (some ⟨w.heap.size, 0, none⟩) 32 32, q.1), (Value.slice (some ⟨g2, 0, none⟩) 8 c2, beB 8 x)] = q.1 ++ beB 8 x := by simp [cat]
  have htot : total [(Value.slice (some ⟨w.heap.size, 0, none⟩) 32 32, q.1), (Value.slice (some ⟨g2, 0, none⟩) 8 c2, beB 8 x)] = (q.1 ++ beB 8 x).length := by simp [total]
  have HCAT := Lib.hid (And.intro hcat htot)
  have hbA : Below w2.heap.size w2 (w2.alloc (.cells #[.slice (some ⟨w.heap.size, 0, none⟩) 32 32, .slice (some ⟨g2, 0, none⟩) 8 c2] 78)) := (Below.refl _ _).alloc (Nat.le_refl _) _
  refine wpAnyH_ready (rs := [7]) (by kernel_rfl) (by simp) ?_
  refine rStep 7 (Op.buildSlice 214 2 #[(0, Operand.tmp 17), (1, Operand.tmp 21)]) (some 22) (.slice (some ⟨w2.heap.size, 0, none⟩) 2 2) (w2.alloc (.cells #[.slice (some ⟨w.heap.size, 0, none⟩) 32 32, .slice (some ⟨g2, 0, none⟩) 8 c2] 78)) (by kernel_rfl) (by kernel_rfl) (fun o ho => by unfold execOp; simp only [ho]; go_simp) (Below.cell' hbA hHeld) ?_ AllReadyH.nil
  simp only [Act.put, List.setIfInBounds_toArray, List.set_cons_zero, List.set_cons_succ]
  replace hHeld := Below.cell' hbA hHeld
  refine wpAnyH_ready (rs := [8]) (by kernel_rfl) (by simp) ?_
  refine rCall 8 (Op.call { callee := Callee.value (Operand.func 102), args := #[Operand.tmp 22], argTypes := #[214] }) (some 23) 102 (#[.slice (some ⟨w2.heap.size, 0, none⟩) 2 2]) (by kernel_rfl) (by kernel_rfl) (fun o ho => by unfold execOp; simp only [ho]; go_simp) ?_ AllReadyH.nil
  refine (wire_join _ [(.slice (some ⟨w.heap.size, 0, none⟩) 32 32, q.1), (.slice (some ⟨g2, 0, none⟩) 8 c2, beB 8 x)] _ HPA.out (by simp) (by rw [HCAT.out.2, List.length_append, beB_length, HQ.out.dig.len]; omega)).mono ?_
  rintro e w3 ⟨v3, rfl, hown3, hb3⟩
  rw [HCAT.out.1, HCAT.out.2] at hown3
  refine ⟨_, rfl, Below.cell' hb3 hHeld, fun hHeld => ?_⟩
  simp only [Act.put, List.setIfInBounds_toArray, List.set_cons_zero, List.set_cons_succ]
  refine wpAnyH_ready (rs := [9]) (by kernel_rfl) (by simp) ?_
  refine rCall 9 (Op.call { callee := Callee.value (Operand.func 101), args := #[Operand.tmp 15, Operand.tmp 23], argTypes := #[59, 78] }) (some 24) 101 (#[.int .u32 g, v3]) (by kernel_rfl) (by kernel_rfl) (fun o ho => by unfold execOp; simp only [ho]; go_simp) ?_ AllReadyH.nil
  refine (frame_make g v3 (q.1 ++ beB 8 x) w3 (Sn.own hown3) HBY.out (by rw [HLN.out]; omega) HG.out).mono ?_
  rintro e w4 ⟨rfl, hb4⟩
  refine ⟨_, rfl, Below.cell' hb4 hHeld, fun hHeld => ?_⟩
  simp only [Act.put, List.setIfInBounds_toArray, List.set_cons_zero, List.set_cons_succ]
  refine hTake 10 (Op.extract (Operand.tmp 24) 0) (some 25) (.agg (u8s (rec g (q.1 ++ beB 8 x))).toArray) (by kernel_rfl) (by kernel_rfl) (by kernel_rfl) (by kernel_rfl) (by kernel_rfl) (fun _ _ _ h => h) (fun o ho wX hX => by unfold execOp; simp only [ho]; go_simp) hHeld ?_
  simp only [Act.put, List.setIfInBounds_toArray, List.set_cons_zero, List.set_cons_succ]
  refine hTake 11 (Op.extract (Operand.tmp 24) 1) (some 26) (.bool true) (by kernel_rfl) (by kernel_rfl) (by kernel_rfl) (by kernel_rfl) (by kernel_rfl) (fun _ _ _ h => h) (fun o ho wX hX => by unfold execOp; simp only [ho]; go_simp) hHeld ?_
  simp only [Act.put, List.setIfInBounds_toArray, List.set_cons_zero, List.set_cons_succ]
  have hb40 := bstep (bstep (bstep hb20 hbA) hb3) hb4
  have hB4 := ((hB2r.keep hbA).keep hb3).keep hb4
  have hth := there_blk hB4 (off := 0) (n := (u8s (rec g (q.1 ++ beB 8 x))).length) (by rw [HRL.out, z64_size]; exact Nat.le_refl _)
  refine wpAnyH_ready (rs := [12]) (by kernel_rfl) (by simp) ?_
  refine rStoreS 12 144 (.tmp 4) (.tmp 25) none (cs := u8s (rec g (q.1 ++ beB 8 x))) (by kernel_rfl) (by kernel_rfl) (by exact rfl) (by exact rfl) hth (by rw [HRL.out]; kernel_rfl) (u8s_mem _) (cell_set hHeld) ?_ AllReadyH.nil
  simp only [Act.put, List.setIfInBounds_toArray, List.set_cons_zero, List.set_cons_succ]
  replace hHeld := cell_set (b := w.heap.size + 1) (o := 0) (vs := u8s (rec g (q.1 ++ beB 8 x))) hHeld
  refine hTake 13 (Op.assign (Operand.tmp 26)) (some 5) (.bool true) (by kernel_rfl) (by kernel_rfl) (by kernel_rfl) (by kernel_rfl) (by kernel_rfl) (fun _ _ _ h => h) (fun o ho wX hX => by unfold execOp; simp only [ho]; go_simp) hHeld ?_
  simp only [Act.put, List.setIfInBounds_toArray, List.set_cons_zero, List.set_cons_succ]
  refine wpAnyH_done (by kernel_rfl) ?_ _
  have hrr := World.rangeAt_setCells_same w4 (w.heap.size + 1) 0 (u8s (rec g (q.1 ++ beB 8 x))) hth
  have hbF := hb40.trans (setCells_below (Nat.le_succ w.heap.size) (u8s (rec g (q.1 ++ beB 8 x))) 0 w4).1
  obtain ⟨w9, hw9⟩ : ∃ w9, w9 = w4.setCells (w.heap.size + 1) 0 (u8s (rec g (q.1 ++ beB 8 x))) := ⟨_, rfl⟩
  rw [← hw9] at hrr hbF ⊢
  clear hw9 hth hB4 hB2r hB2 hHeld
  have HRR := Lib.hid hrr
  clear hrr
  go_wp2_with fail
  refine bodyPost_ret (results_cellR_tmp rfl _ rfl HRR.out Tryz.underlying144 rfl (by rw [HRL.out]; kernel_rfl)) rfl ⟨rfl, hbF⟩
end Go.Proofs.YtombncedfleljaaGreat
