/- Parts: frame.Entry, of an entry that has a record. | slot.Room, tollref17.Right. | Answers of the disk as errors; frame.Entry of any entry. | frame.ParseEntry. | slot.Commit, slot.Put. | slot.Put. -/
import Derived.Test.YtpkcddnclifcpaaMT3
import Derived.Test.YtpkcddnclifcpaaMT8
import Derived.Test.YtpkcddnclifcpaaMT2
import Derived.Test.YtpkcddnclifcpaaMT4
namespace Go.Proofs.Ytpkcddnclifcpaa
open Go.RowKit
attribute [local irreducible] wpQuiet wpAnyH
set_option linter.unusedSimpArgs false

theorem sn_dig {w : World} {g : Nat} {t : TypeId} {q : List Int × Int} (h : Blk w g t (entP q).toArray) (hq : EntOk q) : Sn w 1 (.slice (some ⟨g, 0, none⟩) 32 32) 32 (u8s q.1) :=
  ⟨_, 32, rfl, Nat.le_refl _, by rw [u8s_length, hq.dig.len], fun _ => ⟨g, 0, rfl, fun j u hj => by
    rw [h.cell, Nat.zero_add]
    have hlt := (List.getElem?_eq_some_iff.1 hj).1
    simp only [List.getElem?_toArray, entP, entC]
    rw [List.getElem?_append_left hlt]
    exact hj⟩⟩
theorem cell_set {w : World} {a b o : Nat} {i : Nat} {v : Value} {vs : List Value} (h : w.cell? ⟨a, i, none⟩ = some v) (hne : a ≠ b := by omega) : (w.setCells b o vs).cell? ⟨a, i, none⟩ = some v :=
  (setCells_off b vs o w).cell h hne

set_option maxRecDepth 100000 in
set_option maxHeartbeats 4000000 in
theorem frame_entry_ok (g x : Nat) (q : List Int × Int) (w : World) (hq : EntOk q) (hx : q.2 = x) (hx62 : x ≤ 4611686018427387904) (hg : g < 4294967296) :
    Calls Try.prog 28 #[.int .u32 g, .agg (entP q).toArray] w fun e w' => e = .returned (.tuple #[.agg (u8s (rec g (q.1 ++ beB 8 x))).toArray, .bool true]) ∧ Below w.heap.size w w' := by
  have HQ := Lib.hid hq
  have HG := Lib.hid hg
  have hlq := entP_length q hq
  have HLN : Hid ((q.1 ++ beB 8 x).length = 40) := Lib.hid (by rw [List.length_append, beB_length, hq.dig.len])
  have HRL : Hid ((u8s (rec g (q.1 ++ beB 8 x))).length = 64) := Lib.hid (by rw [u8s_length, rec_length g _ (by rw [HLN.out]; omega)])
  have HBY : Hid (Bys (q.1 ++ beB 8 x)) := Lib.hid (fun b hb => by
    rcases List.mem_append.1 hb with hb | hb
    · exact hq.dig.byte b hb
    · exact beB_bys _ _ b hb)
  have HX8 : Hid (x < 256 ^ 8) := Lib.hid (by have e8 : (256 : Nat) ^ 8 = 18446744073709551616 := by decide
                                              omega)
  have hc2 : (0 : Int) ≤ q.2 := by omega
  have hc3 : q.2 ≤ 4611686018427387904 := by omega
  have hcv : IntKind.u64.wrap q.2 = (x : Int) := by rw [hx]; exact IntWalk.u64_in _ (by omega)
  obtain ⟨w1, hw1⟩ : ∃ w1, w1 = (w.alloc (.cells (entP q).toArray 26)).alloc (.cells z64 80) := ⟨_, rfl⟩
  have hB1 : Blk w1 w.heap.size 26 (entP q).toArray := by rw [hw1]; exact (Blk.new w _ _).alloc _
  have hB2 : Blk w1 (w.heap.size + 1) 80 z64 := by rw [hw1]; exact Blk.newAt _ _ _ _ (by simp)
  have hbw : Below w.heap.size w w1 := by rw [hw1]; exact ((Below.refl _ w).alloc (Nat.le_refl _) _).alloc (by simp) _
  have hcell : w1.cell? ⟨w.heap.size, 32, none⟩ = some (.int .i64 q.2) := by
    rw [hB1.cell]
    have h32 : (u8s q.1).length = 32 := by rw [u8s_length, hq.dig.len]
    simp only [List.getElem?_toArray, entP, entC]
    rw [List.getElem?_append_right (by omega), h32]
    rfl
  have HB1 : Hid (Blk w1.drew w.heap.size 26 (entP q).toArray) := Lib.hid hB1
  have HB2 : Hid (Blk w1.drew (w.heap.size + 1) 80 z64) := Lib.hid hB2
  have HBW : Hid (Below w.heap.size w w1.drew) := Lib.hid hbw.drew
  have HC1 : Hid (w1.drew.cell? ⟨w.heap.size, 32, none⟩ = some (.int .i64 q.2)) := Lib.hid hcell
  subst hw1
  clear hB1 hB2 hbw hq hg hx hx62
  go_enter Try.func28, Try.ntmps28
  go_wp2_with (refine al 80 z64 rfl rfl zero64 ?_)
  refine held_start 14 (fun w' => w'.cell? ⟨w.heap.size, 32, none⟩ = some (.int .i64 q.2)) (by kernel_rfl) (by kernel_rfl) (HC1.out) (fun hHeld => ?_)
  refine hMove 0 (Operand.tmp 0) (some 15) (.int .u32 g) (by kernel_rfl) (by kernel_rfl) (by kernel_rfl) (by kernel_rfl) (by kernel_rfl) (fun _ _ _ h => h) (by exact rfl) hHeld ?_
  simp only [Act.put, List.setIfInBounds_toArray, List.set_cons_zero, List.set_cons_succ]
  refine hTake 1 (Op.fieldAddr 26 (Operand.tmp 3) 0) (some 16) (.pointer (some ⟨w.heap.size, 0, none⟩)) (by kernel_rfl) (by kernel_rfl) (by kernel_rfl) (by kernel_rfl) (by kernel_rfl) (fun _ _ _ h => h) (fun o ho wX hX => by unfold execOp; simp only [ho]; go_simp) hHeld ?_
  simp only [Act.put, List.setIfInBounds_toArray, List.set_cons_zero, List.set_cons_succ]
  refine hTake 2 (Op.slice 24 (Operand.tmp 16) none none none) (some 17) (.slice (some ⟨w.heap.size, 0, none⟩) 32 32) (by kernel_rfl) (by kernel_rfl) (by kernel_rfl) (by kernel_rfl) (by kernel_rfl) (fun _ _ _ h => h) (fun o ho wX hX => by unfold execOp; simp only [ho]; go_simp) hHeld ?_
  simp only [Act.put, List.setIfInBounds_toArray, List.set_cons_zero, List.set_cons_succ]
  refine hTake 3 (Op.fieldAddr 26 (Operand.tmp 3) 1) (some 18) (.pointer (some ⟨w.heap.size, 32, none⟩)) (by kernel_rfl) (by kernel_rfl) (by kernel_rfl) (by kernel_rfl) (by kernel_rfl) (fun _ _ _ h => h) (fun o ho wX hX => by unfold execOp; simp only [ho]; go_simp) hHeld ?_
  simp only [Act.put, List.setIfInBounds_toArray, List.set_cons_zero, List.set_cons_succ]
  refine hTake 4 (Op.load 2 (Operand.tmp 18)) (some 19) (.int .i64 q.2) (by kernel_rfl) (by kernel_rfl) (by kernel_rfl) (by kernel_rfl) (by kernel_rfl) (fun _ _ _ h => h) (fun o ho wX hX => by unfold execOp; simp only [ho]; go_simp) hHeld ?_
  simp only [Act.put, List.setIfInBounds_toArray, List.set_cons_zero, List.set_cons_succ]
  refine hTake 5 (Op.convert 2 110 (Operand.tmp 19)) (some 20) (.int .u64 (x : Int)) (by kernel_rfl) (by kernel_rfl) (by kernel_rfl) (by kernel_rfl) (by kernel_rfl) (fun _ _ _ h => h) (fun o ho wX hX => by unfold execOp; simp only [ho]; go_simp) hHeld ?_
  simp only [Act.put, List.setIfInBounds_toArray, List.set_cons_zero, List.set_cons_succ]
  refine wpAnyH_ready (rs := [6]) (by kernel_rfl) (by simp) ?_
  refine rCall 6 (Op.call { callee := Callee.value (Operand.func 53), args := #[Operand.const (Value.int IntKind.i64 8), Operand.tmp 20], argTypes := #[3, 110] }) (some 21) 53 (#[.int .i64 8, .int .u64 x]) (by kernel_rfl) (by kernel_rfl) (fun o ho => by unfold execOp; simp only [ho]; go_simp) ?_ AllReadyH.nil
  refine (frame_number 8 x _ (by omega) (by omega) HX8.out).mono ?_
  rintro e w2 ⟨vv, rfl, hown2, hb2⟩
  obtain ⟨g2, c2, e2, _⟩ := hown2.form (by omega)
  subst e2
  refine ⟨_, rfl, Below.cell' hb2 hHeld, fun hHeld => ?_⟩
  simp only [Act.put, List.setIfInBounds_toArray, List.set_cons_zero, List.set_cons_succ]
  have hB2 := HB1.out.keep hb2
  have hB2r := HB2.out.keep hb2
  have hb20 := bstep HBW.out hb2
  have HPA : Hid (Parts (w2.alloc (.cells #[.slice (some ⟨w.heap.size, 0, none⟩) 32 32, .slice (some ⟨g2, 0, none⟩) 8 c2] 88)) (.slice (some ⟨w2.heap.size, 0, none⟩) 2 2) [(.slice (some ⟨w.heap.size, 0, none⟩) 32 32, q.1), (.slice (some ⟨g2, 0, none⟩) 8 c2, beB 8 x)]) := Lib.hid ⟨Sn.new w2 #[.slice (some ⟨w.heap.size, 0, none⟩) 32 32, .slice (some ⟨g2, 0, none⟩) 8 c2] 88 1 2 rfl, fun z hz => by
    simp only [List.mem_cons, List.not_mem_nil, or_false] at hz
    rcases hz with rfl | rfl
    · have := (sn_dig hB2 HQ.out).alloc (.cells #[.slice (some ⟨w.heap.size, 0, none⟩) 32 32, .slice (some ⟨g2, 0, none⟩) 8 c2] 88)
      rw [HQ.out.dig.len]
      exact this
    · have := (Sn.own hown2).alloc (.cells #[.slice (some ⟨w.heap.size, 0, none⟩) 32 32, .slice (some ⟨g2, 0, none⟩) 8 c2] 88)
      simp only [beB_length]
      exact this⟩
  have hcat : cat [(Value.slice (some ⟨w.heap.size, 0, none⟩) 32 32, q.1), (Value.slice (some ⟨g2, 0, none⟩) 8 c2, beB 8 x)] = q.1 ++ beB 8 x := by simp [cat]
  have htot : total [(Value.slice (some ⟨w.heap.size, 0, none⟩) 32 32, q.1), (Value.slice (some ⟨g2, 0, none⟩) 8 c2, beB 8 x)] = (q.1 ++ beB 8 x).length := by simp [total]
  have HCAT := Lib.hid (And.intro hcat htot)
  have hbA : Below w2.heap.size w2 (w2.alloc (.cells #[.slice (some ⟨w.heap.size, 0, none⟩) 32 32, .slice (some ⟨g2, 0, none⟩) 8 c2] 88)) := (Below.refl _ _).alloc (Nat.le_refl _) _
  refine wpAnyH_ready (rs := [7]) (by kernel_rfl) (by simp) ?_
  refine rStep 7 (Op.buildSlice 150 2 #[(0, Operand.tmp 17), (1, Operand.tmp 21)]) (some 22) (.slice (some ⟨w2.heap.size, 0, none⟩) 2 2) (w2.alloc (.cells #[.slice (some ⟨w.heap.size, 0, none⟩) 32 32, .slice (some ⟨g2, 0, none⟩) 8 c2] 88)) (by kernel_rfl) (by kernel_rfl) (fun o ho => by unfold execOp; simp only [ho]; go_simp) (Below.cell' hbA hHeld) ?_ AllReadyH.nil
  simp only [Act.put, List.setIfInBounds_toArray, List.set_cons_zero, List.set_cons_succ]
  replace hHeld := Below.cell' hbA hHeld
  refine wpAnyH_ready (rs := [8]) (by kernel_rfl) (by simp) ?_
  refine rCall 8 (Op.call { callee := Callee.value (Operand.func 52), args := #[Operand.tmp 22], argTypes := #[150] }) (some 23) 52 (#[.slice (some ⟨w2.heap.size, 0, none⟩) 2 2]) (by kernel_rfl) (by kernel_rfl) (fun o ho => by unfold execOp; simp only [ho]; go_simp) ?_ AllReadyH.nil
  refine (wire_join _ [(.slice (some ⟨w.heap.size, 0, none⟩) 32 32, q.1), (.slice (some ⟨g2, 0, none⟩) 8 c2, beB 8 x)] _ HPA.out (by simp) (by rw [HCAT.out.2, List.length_append, beB_length, HQ.out.dig.len]; omega)).mono ?_
  rintro e w3 ⟨v3, rfl, hown3, hb3⟩
  rw [HCAT.out.1, HCAT.out.2] at hown3
  refine ⟨_, rfl, Below.cell' hb3 hHeld, fun hHeld => ?_⟩
  simp only [Act.put, List.setIfInBounds_toArray, List.set_cons_zero, List.set_cons_succ]
  refine wpAnyH_ready (rs := [9]) (by kernel_rfl) (by simp) ?_
  refine rCall 9 (Op.call { callee := Callee.value (Operand.func 51), args := #[Operand.tmp 15, Operand.tmp 23], argTypes := #[39, 88] }) (some 24) 51 (#[.int .u32 g, v3]) (by kernel_rfl) (by kernel_rfl) (fun o ho => by unfold execOp; simp only [ho]; go_simp) ?_ AllReadyH.nil
  refine (frame_make g v3 (q.1 ++ beB 8 x) w3 (Sn.own hown3) HBY.out (by rw [HLN.out]; omega) HG.out).mono ?_
  rintro e w4 ⟨rfl, hb4⟩
  refine ⟨_, rfl, Below.cell' hb4 hHeld, fun hHeld => ?_⟩
  simp only [Act.put, List.setIfInBounds_toArray, List.set_cons_zero, List.set_cons_succ]
  refine hTake 10 (Op.extract (Operand.tmp 24) 0) (some 25) (.agg (u8s (rec g (q.1 ++ beB 8 x))).toArray) (by kernel_rfl) (by kernel_rfl) (by kernel_rfl) (by kernel_rfl) (by kernel_rfl) (fun _ _ _ h => h) (fun o ho wX hX => by unfold execOp; simp only [ho]; go_simp) hHeld ?_
  simp only [Act.put, List.setIfInBounds_toArray, List.set_cons_zero, List.set_cons_succ]
  refine hTake 11 (Op.extract (Operand.tmp 24) 1) (some 26) (.bool true) (by kernel_rfl) (by kernel_rfl) (by kernel_rfl) (by kernel_rfl) (by kernel_rfl) (fun _ _ _ h => h) (fun o ho wX hX => by unfold execOp; simp only [ho]; go_simp) hHeld ?_
  simp only [Act.put, List.setIfInBounds_toArray, List.set_cons_zero, List.set_cons_succ]
  have hb40 := bstep (bstep (bstep hb20 hbA) hb3) hb4
  have hB4 := ((hB2r.keep hbA).keep hb3).keep hb4
  have hth := there_blk hB4 (off := 0) (n := (u8s (rec g (q.1 ++ beB 8 x))).length) (by rw [HRL.out, z64_size]; exact Nat.le_refl _)
  refine wpAnyH_ready (rs := [12]) (by kernel_rfl) (by simp) ?_
  refine rStoreS 12 80 (.tmp 4) (.tmp 25) none (cs := u8s (rec g (q.1 ++ beB 8 x))) (by kernel_rfl) (by kernel_rfl) (by exact rfl) (by exact rfl) hth (by rw [HRL.out]; kernel_rfl) (u8s_mem _) (cell_set hHeld) ?_ AllReadyH.nil
  simp only [Act.put, List.setIfInBounds_toArray, List.set_cons_zero, List.set_cons_succ]
  replace hHeld := cell_set (b := w.heap.size + 1) (o := 0) (vs := u8s (rec g (q.1 ++ beB 8 x))) hHeld
  refine hTake 13 (Op.assign (Operand.tmp 26)) (some 5) (.bool true) (by kernel_rfl) (by kernel_rfl) (by kernel_rfl) (by kernel_rfl) (by kernel_rfl) (fun _ _ _ h => h) (fun o ho wX hX => by unfold execOp; simp only [ho]; go_simp) hHeld ?_
  simp only [Act.put, List.setIfInBounds_toArray, List.set_cons_zero, List.set_cons_succ]
  refine wpAnyH_done (by kernel_rfl) ?_ _
  have hrr := World.rangeAt_setCells_same w4 (w.heap.size + 1) 0 (u8s (rec g (q.1 ++ beB 8 x))) hth
  have hbF := hb40.trans (setCells_below (Nat.le_succ w.heap.size) (u8s (rec g (q.1 ++ beB 8 x))) 0 w4).1
  obtain ⟨w9, hw9⟩ : ∃ w9, w9 = w4.setCells (w.heap.size + 1) 0 (u8s (rec g (q.1 ++ beB 8 x))) := ⟨_, rfl⟩
  rw [← hw9] at hrr hbF ⊢
  clear hw9 hth hB4 hB2r hB2 hHeld
  have HRR := Lib.hid hrr
  clear hrr
  go_wp2_with fail
  refine bodyPost_ret (results_cellR_tmp rfl _ rfl HRR.out Try.underlying80 rfl (by rw [HRL.out]; kernel_rfl)) rfl ⟨rfl, hbF⟩
end Go.Proofs.Ytpkcddnclifcpaa
namespace Go.Proofs.Ytpkcddnclifcpaa
open Go.RowKit
attribute [local irreducible] wpQuiet wpAnyH
set_option linter.unusedSimpArgs false

def room (z : Int) : Int := if z < 1 then 0 else z - 1
set_option maxRecDepth 100000 in
theorem slot_room (f z : Int) (w : World) (hz : isI64 z) :
    Calls Try.prog 9 #[.agg #[.int .i64 f, .int .i64 z]] w fun e w' => e = .returned (.int .i64 (room z)) ∧ Below w.heap.size w w' := by
  have hbA : Below w.heap.size w (w.alloc (.cells #[.int .i64 f, .int .i64 z] 30)) := (Below.refl _ w).alloc (Nat.le_refl _) _
  have hc := (Blk.new w 30 #[.int .i64 f, .int .i64 z]).cell 1
  simp only [List.getElem?_toArray, List.getElem?_cons_succ, List.getElem?_cons_zero] at hc
  have h1 : -9223372036854775808 ≤ z := hz.1
  have h2 : z ≤ 9223372036854775807 := hz.2
  rcases Bool.eq_false_or_eq_true (decide (z < 1)) with t1 | t1
  · go_enter Try.func9, Try.ntmps9
    go_wp2_with fail
    go_ret
    exact ⟨by unfold room; rw [if_pos (of_decide_eq_true t1)]; rfl, hbA⟩
  · have h3 : 1 ≤ z := by have := of_decide_eq_false t1; omega
    go_enter Try.func9, Try.ntmps9
    go_wp2_with fail
    go_ret
    exact ⟨by unfold room; rw [if_neg (by omega)]; rfl, hbA⟩
def rightE (q : List Int × Int) : Bool := decide (0 ≤ q.2) && decide (q.2 ≤ 4611686018427387904)
set_option maxRecDepth 100000 in
theorem ref_right (q : List Int × Int) (w : World) (hq : EntOk q) :
    Calls Try.prog 12 #[.agg (entP q).toArray] w fun e w' => e = .returned (.bool (rightE q)) ∧ Below w.heap.size w w' := by
  have hbA : Below w.heap.size w (w.alloc (.cells (entP q).toArray 26)) := (Below.refl _ w).alloc (Nat.le_refl _) _
  have hB := Blk.new w 26 (entP q).toArray
  have hcell : (w.alloc (.cells (entP q).toArray 26)).cell? ⟨w.heap.size, 32, none⟩ = some (.int .i64 q.2) := by
    rw [hB.cell]
    have h32 : (u8s q.1).length = 32 := by rw [u8s_length, hq.dig.len]
    simp only [List.getElem?_toArray, entP, entC]
    rw [List.getElem?_append_right (by omega), h32]
    rfl
  have hlq := entP_length q hq
  clear hB hq
  rcases Bool.eq_false_or_eq_true (decide (0 ≤ q.2)) with t1 | t1 <;> rcases Bool.eq_false_or_eq_true (decide (q.2 ≤ 4611686018427387904)) with t2 | t2
  all_goals
    go_enter Try.func12, Try.ntmps12
    go_wp2_with fail
    go_ret
    exact ⟨by unfold rightE; rw [t1, t2]; rfl, hbA⟩
end Go.Proofs.Ytpkcddnclifcpaa
namespace Go.Proofs.Ytpkcddnclifcpaa
open Go.RowKit
attribute [local irreducible] wpQuiet wpAnyH
set_option linter.unusedSimpArgs false

abbrev Ans := Option (Int × Option Int)
def valE : Ans → Value
  | none => .nilIface
  | some (c, o) => baseVal c o
def codeA : Ans → Int
  | none => 0
  | some (c, _) => c
def writeA (d : DiskD) (a : Int) : Ans :=
  if d.down then some (12, none) else if outS d = 2 then some (12, none) else if outS d = 1 then some (11, none) else if hasB d a then none else some (15, some a)
def syncA (d : DiskD) : Ans := if d.down then some (12, none) else if outS d = 2 then some (12, none) else if outS d = 1 then some (11, none) else none
theorem writeE_val (d : DiskD) (a : Int) : writeE d a = valE (writeA d a) := by
  unfold writeE writeA
  split; · rfl
  split; · rfl
  split; · rfl
  split <;> rfl
theorem syncE_val (d : DiskD) : syncE d = valE (syncA d) := by
  unfold syncE syncA
  split; · rfl
  split; · rfl
  split <;> rfl
theorem valE_form (x : Int × Option Int) : ∃ t u, valE (some x) = .iface t u := by
  obtain ⟨c, o⟩ := x
  cases o <;> exact ⟨_, _, rfl⟩
theorem code_val (o : Ans) (w : World) : Calls Try.prog 31 #[valE o] w fun e w' => e = .returned (.int .i64 (codeA o)) ∧ Below w.heap.size w w' := by
  cases o with
  | none => exact code_nil w
  | some x => obtain ⟨c, p⟩ := x; exact code_base w c p

def entRec (g : Nat) (q : List Int × Int) : List Int := rec g (q.1 ++ beB 8 q.2.toNat)
theorem frame_entry (g : Nat) (q : List Int × Int) (w : World) (hq : EntOk q) (hg : g < 4294967296) :
    Calls Try.prog 28 #[.int .u32 g, .agg (entP q).toArray] w fun e w' => e = .returned (.tuple #[.agg (u8s (if rightE q then entRec g q else zsec)).toArray, .bool (rightE q)]) ∧ Below w.heap.size w w' := by
  cases hr : rightE q with
  | true =>
    have h2 : 0 ≤ q.2 ∧ q.2 ≤ 4611686018427387904 := by unfold rightE at hr; simpa using hr
    have h := frame_entry_ok g q.2.toNat q w hq (by omega) (by omega) hg
    rw [if_pos rfl]
    exact h
  | false =>
    rw [if_neg (by simp)]
    have HZ := Lib.hid z64_zsec
    have HZ1 : Hid (z64.all (·.oneCell') = true) := Lib.hid (by rw [z64_zsec]; exact u8s_one _)
    have hzl : z64.size = 64 := z64_size
    have hB0 : Blk (w.alloc (.cells (entP q).toArray 26)) w.heap.size 26 (entP q).toArray := Blk.new _ _ _
    have hc : (w.alloc (.cells (entP q).toArray 26)).cell? ⟨w.heap.size, 32, none⟩ = some (.int .i64 q.2) := by
      rw [hB0.cell 32]
      have hl : (u8s q.1).length = 32 := by rw [u8s_length, hq.dig.len]
      show (entC q.1 q.2).toArray[32]? = _
      simp [entC, hl]
    obtain ⟨E, hE⟩ : ∃ E, E = (entP q).toArray := ⟨_, rfl⟩
    rw [← hE] at hc ⊢
    clear hE hB0
    have hc2 : ((w.alloc (.cells E 26)).alloc (.cells z64 80)).cell? ⟨w.heap.size, 32, none⟩ = some (.int .i64 q.2) := Below.cell' ((Below.refl _ _).alloc (Nat.le_refl _) _) hc
    have HB1 : Hid (Blk ((w.alloc (.cells E 26)).alloc (.cells z64 80)) (w.heap.size + 1) 80 z64) := Lib.hid (Blk.newAt _ _ _ _ (by simp))
    have HBW : Hid (Below w.heap.size w ((w.alloc (.cells E 26)).alloc (.cells z64 80))) := Lib.hid (((Below.refl _ w).alloc (Nat.le_refl _) _).alloc (by simp) _)
    have HSZ : Hid ((w.alloc (.cells E 26)).heap.size = w.heap.size + 1) := Lib.hid (by simp)
    clear hc
    obtain ⟨x, hx⟩ : ∃ x, x = q.2 := ⟨_, rfl⟩
    rw [← hx] at hc2
    have hbad : x < 0 ∨ 4611686018427387904 < x := by
      unfold rightE at hr
      rw [← hx] at hr
      by_cases h : x < 0
      · exact .inl h
      · right
        have h0 : 0 ≤ x := by omega
        simp [h0] at hr
        omega
    clear hx hr
    rcases Bool.eq_false_or_eq_true (decide (x < 0)) with t1 | t1
    · go_enter Try.func28, Try.ntmps28
      go_wp2_with (first
        | (refine al 80 z64 rfl rfl zero64 ?_)
        | (refine bld 80 #[] rfl rfl rfl built64 ?_)
        | (refine stBlk 80 (.tmp 4) (.tmp 14) rfl rfl (by first | rfl | (rw [HSZ.out]; rfl) | (simp only [World.size_alloc]; rfl)) rfl HB1.out (by rw [hzl]; kernel_rfl) rfl HZ1.out ?_; intro w3 hB3 hb3 _ _; have HB3 := Lib.hid hB3; have HE3 := Lib.hid hb3; clear hB3 hb3))
      have hr : w3.rangeAt (w.heap.size + 1) 0 (u8s zsec) := by have h := HB3.out.range; rw [HZ.out, List.toList_toArray] at h; exact h
      exact bodyPost_ret (results_cellR_tmp rfl _ (by first | rfl | (simp only [World.size_alloc]; rfl)) hr Try.underlying80 rfl (by rw [sec_length zsec_sec]; kernel_rfl)) rfl ⟨rfl, HBW.out.trans (HE3.out.mono (by omega))⟩
    · have t2 : decide ((4611686018427387904 : Int) < x) = true := by have := of_decide_eq_false t1; simp; omega
      go_enter Try.func28, Try.ntmps28
      go_wp2_with (first
        | (refine al 80 z64 rfl rfl zero64 ?_)
        | (refine bld 80 #[] rfl rfl rfl built64 ?_)
        | (refine stBlk 80 (.tmp 4) (.tmp 14) rfl rfl (by first | rfl | (rw [HSZ.out]; rfl) | (simp only [World.size_alloc]; rfl)) rfl HB1.out (by rw [hzl]; kernel_rfl) rfl HZ1.out ?_; intro w3 hB3 hb3 _ _; have HB3 := Lib.hid hB3; have HE3 := Lib.hid hb3; clear hB3 hb3))
      have hr : w3.rangeAt (w.heap.size + 1) 0 (u8s zsec) := by have h := HB3.out.range; rw [HZ.out, List.toList_toArray] at h; exact h
      exact bodyPost_ret (results_cellR_tmp rfl _ (by first | rfl | (simp only [World.size_alloc]; rfl)) hr Try.underlying80 rfl (by rw [sec_length zsec_sec]; kernel_rfl)) rfl ⟨rfl, HBW.out.trans (HE3.out.mono (by omega))⟩
end Go.Proofs.Ytpkcddnclifcpaa
namespace Go.Proofs.Ytpkcddnclifcpaa
open Go.RowKit
attribute [local irreducible] wpQuiet wpAnyH
set_option linter.unusedSimpArgs false

def zE : Array Value := (entP (List.replicate 32 0, 0)).toArray
theorem zeroE : ∀ w, (zeroValue 26).run Try.prog w = .ok (.agg zE) w := fun w => by unfold zE; kernel_rfl
theorem builtE : Try.prog.built 26 [] = some zE := by unfold zE; kernel_rfl
theorem zE_size : zE.size = 33 := by simp [zE, entP, entC, u8s]
theorem zE_one : zE.all (·.oneCell') = true := entC_one _ _
/-- The generation and the entry of an entry's record, if it is one. -/
def prsE (s : List Int) : Option (Nat × (List Int × Int)) := match prs s with
  | none => none
  | some (g, p) => if p.length = 40 ∧ beN (p.drop 32) ≤ 4611686018427387904 then some (g, (p.take 32, (beN (p.drop 32) : Int))) else none

theorem prs_len {s : List Int} {g : Nat} {p : List Int} (h : prs s = some (g, p)) : p.length ≤ 54 := by
  unfold prs at h
  split at h
  · cases h
  · rename_i hn
    split at h
    · cases h
    · split at h
      · cases h
      · injection h with h
        injection h with _ h
        rw [← h, List.length_take]
        omega
theorem results_cellR_mid {P : Program} {w : World} {fn : Func} {p u x : Tmp} {ty : TypeId} (h : fn.results = #[.tmp u, .cell p ty, .tmp x]) (tmps : Array Value) {b off : Nat} {cs : List Value} {d : TypeDesc} (hp : tmps.getD p undef = .pointer (some ⟨b, off, none⟩)) (hc : w.rangeAt b off cs)
    (hu : P.underlying ty = some d) (hd : d.isRow = true) (hi : (P.info? ty).map (·.size) = some cs.length) : (results fn tmps).run P w = .ok (.tuple #[tmps.getD u undef, .agg cs.toArray, tmps.getD x undef]) w := by
  have h1 : tmps[p]?.getD undef = .pointer (some ⟨b, off, none⟩) := by simpa using hp
  simp [results, h, h1, asAddr, Sem.run_bind, Result.andThen, run_loadVar_mid w b off ty cs d hc hu hd hi]

theorem rd_take32 (r : Nat) (v : Value) (p : List Int) (w : World) (h : RD w r v p false) (hl : p.length ≤ 1000000) :
    Calls Try.prog 69 #[.pointer (some ⟨r, 0, none⟩), .int .i64 32] w fun e w' => Off r w w' ∧ ∃ x v' xs ys bad, e = .returned x ∧ xs.length ≤ 32 ∧ Sn w' 1 x xs.length (u8s xs) ∧ RD w' r v' ys bad ∧ (∀ b, v'.ownBlock = some b → v.ownBlock = some b) ∧
      ((bad = false ∧ 32 ≤ p.length ∧ xs = p.take 32 ∧ ys = p.drop 32) ∨ (bad = true ∧ p.length < 32 ∧ xs = [] ∧ ys = [])) := by
  refine (rd_TakeF r v p false 32 w h hl (by omega)).mono ?_
  rintro e w1 ⟨ho, ⟨_, h32, x, v', rfl, hs, hR, hob⟩ | ⟨hbad, rfl, hR⟩⟩
  · have hlen : (p.take 32).length = 32 := by rw [List.length_take]; omega
    exact ⟨ho, x, v', p.take 32, p.drop 32, false, rfl, by omega, by rw [hlen]; exact hs, hR, hob, .inl ⟨rfl, h32, rfl, rfl⟩⟩
  · refine ⟨ho, _, _, [], [], true, rfl, by simp, ⟨none, 0, rfl, Nat.le_refl _, rfl, fun h => absurd h (by simp)⟩, hR, (fun b e => by cases e), .inr ⟨rfl, ?_, rfl, rfl⟩⟩
    rcases hbad with h | h
    · cases h
    · exact h
theorem rd_num8 (r : Nat) (v : Value) (ys : List Int) (bad : Bool) (w : World) (h : RD w r v ys bad) (hb : Bys ys) (hl : ys.length ≤ 1000000) :
    Calls Try.prog 70 #[.pointer (some ⟨r, 0, none⟩), .int .i64 8] w fun e w' => Off r w w' ∧ ∃ (N : Nat) (v' : Value) (zs : List Int) (bad' : Bool), e = .returned (.int .u64 N) ∧ N < 18446744073709551616 ∧ RD w' r v' zs bad' ∧
      ((bad = false ∧ 8 ≤ ys.length ∧ bad' = false ∧ N = beN (ys.take 8) ∧ zs = ys.drop 8) ∨ ((bad = true ∨ ys.length < 8) ∧ bad' = true)) := by
  refine (rd_Number r v ys bad 8 w h hb hl (by omega) (by omega)).mono ?_
  rintro e w1 ⟨ho, ⟨hbad, h8, v', rfl, hR⟩ | ⟨hbad, rfl, hR⟩⟩
  · refine ⟨ho, _, v', _, false, rfl, ?_, hR, .inl ⟨hbad, h8, rfl, rfl, rfl⟩⟩
    have := beN_lt (ys.take 8) (fun b hb' => hb b (List.mem_of_mem_take hb'))
    rw [List.length_take, Nat.min_eq_left h8] at this
    exact this
  · exact ⟨ho, 0, _, _, true, rfl, by omega, hR, .inr ⟨hbad, rfl⟩⟩
/-- The block of an entry behind the copy of a digest. -/
def copE (xs : List Int) : Array Value := ((u8s xs).zipIdx 0).foldl (fun (cs : Array Value) (x : Value × Nat) => cs.setIfInBounds x.2 x.1) zE
theorem copE_size (xs : List Int) : (copE xs).size = 33 := by
  have key : ∀ (l : List (Value × Nat)) (cs : Array Value), (l.foldl (fun (cs : Array Value) (x : Value × Nat) => cs.setIfInBounds x.2 x.1) cs).size = cs.size := by
    intro l
    induction l with
    | nil => intro cs; rfl
    | cons x l ih => intro cs; rw [List.foldl_cons, ih, Array.size_setIfInBounds]
  unfold copE
  rw [key, zE_size]
theorem copE_set (xs : List Int) (t : Int) (h : xs.length = 32) : (copE xs).setIfInBounds 32 (.int .i64 t) = (entC xs t).toArray := build_ent xs t h zE zE_size
theorem RD.off {w w' : World} {r g : Nat} {v : Value} {xs : List Int} {bad : Bool} (h : RD w r v xs bad) (ho : Off g w w') (hr : r ≠ g) (hv : ∀ b, v.ownBlock = some b → b ≠ g) : RD w' r v xs bad := by
  refine ⟨ho.blk h.1 hr, ?_⟩
  obtain ⟨A, cap, rfl, hc, hl, hx⟩ := h.2
  refine ⟨A, cap, rfl, hc, hl, fun hp => ?_⟩
  obtain ⟨b, off, rfl, hcell⟩ := hx hp
  exact ⟨b, off, rfl, fun j u hj => ho.cell (hcell j u hj) (hv b rfl)⟩

set_option maxRecDepth 100000 in
set_option maxHeartbeats 2000000 in
theorem frame_parse_entry (s : List Int) (w : World) (hl : s.length = 64) (hb : Bys s) :
    Calls Try.prog 40 #[.agg (u8s s).toArray] w fun e w' => Below w.heap.size w w' ∧
      ((prsE s = none ∧ e = .returned (.tuple #[.int .u32 0, .agg zE, .bool false])) ∨ (∃ g q, prsE s = some (g, q) ∧ e = .returned (.tuple #[.int .u32 g, .agg (entP q).toArray, .bool true]))) := by
  have hul : (u8s s).length = 64 := by rw [u8s_length, hl]
  have HZ : Hid ((Try.prog.info? 26).map (·.size) = some zE.size ∧ zE.all (·.oneCell') = true) := Lib.hid ⟨by rw [zE_size]; kernel_rfl, zE_one⟩
  obtain ⟨wa, hwa⟩ : ∃ wa, wa = w.alloc (.cells (u8s s).toArray 80) := ⟨_, rfl⟩
  obtain ⟨gE, hgE⟩ : ∃ g, g = wa.heap.size := ⟨_, rfl⟩
  obtain ⟨w1, hw1⟩ : ∃ w1, w1 = wa.alloc (.cells zE 26) := ⟨_, rfl⟩
  have hB1 : Blk w1 w.heap.size 80 (u8s s).toArray := by rw [hw1, hwa]; exact (Blk.new _ _ _).alloc _
  have hr1 := hB1.range
  rw [List.toList_toArray] at hr1
  have HR1 := Lib.hid hr1
  have HBE : Hid (Blk w1 gE 26 zE) := Lib.hid (by rw [hw1, hgE]; exact Blk.new _ _ _)
  have HB1 : Hid (Below w.heap.size w w1) := Lib.hid (by rw [hw1, hwa]; exact ((Below.refl _ w).alloc (Nat.le_refl _) _).alloc (by simp) _)
  have HGE : Hid (w.heap.size ≤ gE) := Lib.hid (by rw [hgE, hwa]; simp)
  clear hB1 hr1
  go_enter Try.func40, Try.ntmps40
  go_upto_region 1 with (refine al 26 zE rfl rfl zeroE ?_)
  rw [← hwa, ← hw1, show w.heap.size + 1 = gE by rw [hgE, hwa]; simp]
  clear hwa hw1 hgE
  go_wp2_with (refine ld 80 _ rfl rfl rfl HR1.out Try.underlying80 rfl (by rw [hul]; kernel_rfl) ?_)
  refine (frame_parse s w1 hl hb).mono ?_
  rintro e w2 ⟨hb2, ⟨hn, rfl⟩ | ⟨g, p, v, hp, rfl, hs⟩⟩
  · have HE2 := Lib.hid (HBE.out.keep hb2)
    have HB2 : Hid (Below w.heap.size w w2) := Lib.hid (bstep HB1.out hb2)
    have HN : Hid (prsE s = none) := Lib.hid (by unfold prsE; rw [hn])
    clear hn hb2
    go_wp2_with (first
      | (refine bld 26 #[] rfl rfl rfl builtE ?_)
      | (refine stBlk 26 (.tmp 3) (.tmp 19) rfl rfl rfl rfl HE2.out HZ.out.1 rfl HZ.out.2 ?_; intro w3 hB3 hb3 _ _; have HB3 := Lib.hid hB3; have HE3 := Lib.hid hb3; clear hB3 hb3))
    have hr := HB3.out.range
    exact bodyPost_ret (results_cellR_mid rfl _ rfl hr Try.underlying26 rfl (by rw [Array.length_toList]; exact HZ.out.1)) rfl ⟨HB2.out.trans (HE3.out.mono HGE.out), .inl ⟨HN.out, rfl⟩⟩
  · obtain ⟨gT, hgT⟩ : ∃ g, g = w2.heap.size := ⟨_, rfl⟩
    obtain ⟨w3, hw3⟩ : ∃ w3, w3 = w2.alloc (.cells zE 26) := ⟨_, rfl⟩
    have HB3 : Hid (Below w.heap.size w w3) := Lib.hid (by rw [hw3]; exact (bstep HB1.out hb2).alloc (bstep HB1.out hb2).size _)
    have HE3 : Hid (Blk w3 gE 26 zE) := Lib.hid (by rw [hw3]; exact (HBE.out.keep hb2).alloc _)
    have HT3 : Hid (Blk w3 gT 26 zE) := Lib.hid (by rw [hw3, hgT]; exact Blk.new _ _ _)
    have HS3 : Hid (Sn w3 1 v p.length (u8s p)) := Lib.hid (by rw [hw3]; exact hs.alloc _)
    have hlt : gE < gT := by have h1 := HBE.out.lt; have h2 := hb2.size; omega
    have hTs : gT < w3.heap.size := HT3.out.lt
    have HP := Lib.hid hp
    have HPB := Lib.hid (prs_bys hb hp)
    have hpl : p.length ≤ 54 := prs_len hp
    clear hp hs hb2
    go_upto_region 5 with (refine al 26 zE rfl rfl zeroE ?_)
    rw [← hw3, ← hgT]
    clear hw3 hgT
    go_wp2_with fail
    refine (wire_newF _ p w3 HS3.out (by omega)).mono ?_
    rintro e w4 ⟨r, v4, rfl, hR4, hfr, hr4, hb4⟩
    have HB4 : Hid (Below w.heap.size w w4.drew) := Lib.hid (bstep HB3.out hb4).drew
    have HE4 : Hid (Blk w4.drew gE 26 zE) := Lib.hid (HE3.out.keep hb4.drew)
    have HT4 : Hid (Blk w4.drew gT 26 zE) := Lib.hid (HT3.out.keep hb4.drew)
    have HR4 : Hid (RD w4.drew r v4 p false) := Lib.hid hR4
    have HFR := Lib.hid hfr
    have hTr : gT < r := by omega
    have HSZ := Lib.hid hb4.size
    clear hR4 hfr hr4 hb4
    go_upto_region 6 with fail
    refine held_start 5 (fun _ => True) (by kernel_rfl) (by kernel_rfl) (trivial) (fun hHeld => ?_)
    refine hTake 0 (Op.fieldAddr 26 (Operand.tmp 8) 0) (some 22) (.pointer (some ⟨gT, 0, none⟩)) (by kernel_rfl) (by kernel_rfl) (by kernel_rfl) (by kernel_rfl) (by kernel_rfl) (fun _ _ _ h => h) (fun o ho wX hX => by unfold execOp; simp only [ho]; go_simp) hHeld ?_
    simp only [Act.put, List.setIfInBounds_toArray, List.set_cons_zero, List.set_cons_succ]
    refine hTake 1 (Op.slice 24 (Operand.tmp 22) none none none) (some 23) (.slice (some ⟨gT, 0, none⟩) 32 32) (by kernel_rfl) (by kernel_rfl) (by kernel_rfl) (by kernel_rfl) (by kernel_rfl) (fun _ _ _ h => h) (fun o ho wX hX => by unfold execOp; simp only [ho]; go_simp) hHeld ?_
    simp only [Act.put, List.setIfInBounds_toArray, List.set_cons_zero, List.set_cons_succ]
    refine hMove 2 (Operand.tmp 9) (some 24) (.pointer (some ⟨r, 0, none⟩)) (by kernel_rfl) (by kernel_rfl) (by kernel_rfl) (by kernel_rfl) (by kernel_rfl) (fun _ _ _ h => h) (by exact rfl) hHeld ?_
    simp only [Act.put, List.setIfInBounds_toArray, List.set_cons_zero, List.set_cons_succ]
    refine wpAnyH_ready (rs := [3]) (by kernel_rfl) (by simp) ?_
    refine rCall 3 (Op.call { callee := Callee.value (Operand.func 69), args := #[Operand.tmp 24, Operand.const (Value.int IntKind.i64 32)], argTypes := #[138, 3] }) (some 25) 69 (#[.pointer (some ⟨r, 0, none⟩), .int .i64 32]) (by kernel_rfl) (by kernel_rfl) (fun o ho => by unfold execOp; simp only [ho]; go_simp) ?_ AllReadyH.nil
    refine (rd_take32 r v4 p w4.drew HR4.out (by omega)).mono ?_
    rintro e w5 ⟨ho5, x, v5, xs, ys, bad, rfl, hxl, hsx, hR5, hob, hcs⟩
    have HB5 : Hid (Below w.heap.size w w5) := Lib.hid (HB4.out.trans (ho5.below (by have := HGE.out; omega) HB4.out.size))
    have HE5 : Hid (Blk w5 gE 26 zE) := Lib.hid (ho5.blk HE4.out (by omega))
    have HT5 : Hid (Blk w5 gT 26 zE) := Lib.hid (ho5.blk HT4.out (by omega))
    have HR5 := Lib.hid hR5
    have HOB := Lib.hid hob
    have HCS := Lib.hid hcs
    have HSX := Lib.hid hsx
    have HTH5 : Hid (w5.there gT 0 xs.length) := Lib.hid (there_blk HT5.out (by rw [zE_size]; omega))
    clear hR5 hob hcs hsx ho5
    refine ⟨_, rfl, trivial, fun hHeld => ?_⟩
    simp only [Act.put, List.setIfInBounds_toArray, List.set_cons_zero, List.set_cons_succ]
    refine wpAnyH_ready (rs := [4]) (by kernel_rfl) (by simp) ?_
    refine rCopy 4 (dT := 88) (sT := 88) (elem := 5) (.tmp 23) (.tmp 25) (some 26) (by kernel_rfl) (by kernel_rfl) (by exact rfl) (by exact rfl) Try.underlying88 (by kernel_rfl) HSX.out hxl HTH5.out (u8s_mem _) trivial ?_ AllReadyH.nil
    simp only [Act.put, List.setIfInBounds_toArray, List.set_cons_zero, List.set_cons_succ]
    refine wpAnyH_done (by kernel_rfl) ?_ _
    clear hHeld
    have HB6 : Hid (Below w.heap.size w (w5.setCells gT 0 (u8s xs))) := Lib.hid (HB5.out.trans (setCells_below (by have := HGE.out; omega) _ _ _).1)
    obtain ⟨w6, hw6⟩ : ∃ w6, w6 = w5.setCells gT 0 (u8s xs) := ⟨_, rfl⟩
    have HE6 : Hid (Blk w6 gE 26 zE) := Lib.hid (by rw [hw6]; exact (setCells_off gT _ 0 w5).blk HE5.out (by omega))
    have HT6 : Hid (Blk w6 gT 26 (copE xs)) := Lib.hid (by rw [hw6]; exact setCells_blk _ _ _ _ HT5.out)
    have HR6 : Hid (RD w6 r v5 ys bad) := Lib.hid (by rw [hw6]; exact HR5.out.off (setCells_off gT _ 0 w5) (by omega) (fun b e => by have := HFR.out b (HOB.out b e); omega))
    rw [← hw6] at HB6 ⊢
    have HYB : Hid (Bys ys) := Lib.hid (by
      rcases HCS.out with ⟨_, _, _, e⟩ | ⟨_, _, _, e⟩
      · rw [e]; exact fun b hb => HPB.out b (List.mem_of_mem_drop hb)
      · rw [e]; exact fun b hb => by cases hb)
    have hyl : ys.length ≤ 1000000 := by
      rcases HCS.out with ⟨_, _, _, e⟩ | ⟨_, _, _, e⟩
      · rw [e, List.length_drop]; omega
      · rw [e]; simp
    clear hw6
    go_wp2_with fail
    refine (rd_num8 r v5 ys bad w6 HR6.out HYB.out hyl).mono ?_
    rintro e w7 ⟨ho7, N, v7, zs, bad7, rfl, hN, hR7, hcs7⟩
    have HB7 : Hid (Below w.heap.size w w7) := Lib.hid (HB6.out.trans (ho7.below (by have := HGE.out; omega) HB6.out.size))
    have HE7 : Hid (Blk w7 gE 26 zE) := Lib.hid (ho7.blk HE6.out (by omega))
    have HT7 : Hid (Blk w7 gT 26 (copE xs)) := Lib.hid (ho7.blk HT6.out (by omega))
    have HR7 := Lib.hid hR7
    have HC7 := Lib.hid hcs7
    clear ho7 hR7 hcs7
    go_wp2_with fail
    refine (rd_Done r v7 zs bad7 w7 HR7.out).mono ?_
    rintro e w8 ⟨rfl, rfl⟩
    obtain ⟨D, hD⟩ : ∃ D, D = (!bad7 && decide (zs.length = 0)) := ⟨_, rfl⟩
    rw [← hD]
    have HD := Lib.hid hD
    clear hD
    have HDT : Hid (D = true → xs = p.take 32 ∧ p.length = 40 ∧ N = beN (p.drop 32)) := Lib.hid (fun e => by
      have h := HD.out
      rw [e] at h
      have h1 : bad7 = false := by
        revert h
        cases bad7
        · intro _; rfl
        · intro h; simp at h
      have h2 : zs.length = 0 := by rw [h1] at h; simpa using h.symm
      rcases HC7.out with ⟨hb0, h8, _, hNv, hz⟩ | ⟨_, hb1⟩
      · rcases HCS.out with ⟨_, h32, hxs, hys⟩ | ⟨hb1, _⟩
        · rw [hz, hys, List.length_drop, List.length_drop] at h2
          rw [hys, List.length_drop] at h8
          refine ⟨hxs, by omega, ?_⟩
          rw [hNv, hys, List.take_of_length_le (by rw [List.length_drop]; omega)]
        · rw [hb0] at hb1; cases hb1
      · rw [h1] at hb1; cases hb1)
    have HDF : Hid (D = false → prsE s = none) := Lib.hid (fun e => by
      unfold prsE
      rw [HP.out]
      simp only
      rw [if_neg]
      rintro ⟨h40, _⟩
      have h := HD.out
      rw [e] at h
      rcases HCS.out with ⟨hb0, h32, hxs, hys⟩ | ⟨_, h32, _⟩
      · rcases HC7.out with ⟨_, h8, hb7, hNv, hz⟩ | ⟨hb1, _⟩
        · rw [hb7, hz, hys, List.length_drop, List.length_drop, h40] at h
          simp at h
        · rw [hb0, hys, List.length_drop, h40] at hb1
          simp at hb1
      · omega)
    clear HD HC7 HCS
    cases D with
    | false =>
      go_wp2_with (first
        | (refine bld 26 #[] rfl rfl rfl builtE ?_)
        | (refine stBlk 26 (.tmp 3) (.tmp 36) rfl rfl rfl rfl HE7.out HZ.out.1 rfl HZ.out.2 ?_; intro w9 hB9 hb9 _ _; have HB9 := Lib.hid hB9; have HE9 := Lib.hid hb9; clear hB9 hb9))
      have hr := HB9.out.range
      exact bodyPost_ret (results_cellR_mid rfl _ rfl hr Try.underlying26 rfl (by rw [Array.length_toList]; exact HZ.out.1)) rfl ⟨HB7.out.trans (HE9.out.mono HGE.out), .inl ⟨HDF.out (by simp), rfl⟩⟩
    | true =>
      rcases Bool.eq_false_or_eq_true (decide ((4611686018427387904 : Int) < (N : Int))) with t1 | t1
      · have HNN : Hid (prsE s = none) := Lib.hid (by
          unfold prsE
          rw [HP.out]
          simp only
          rw [if_neg]
          rintro ⟨_, h⟩
          have := of_decide_eq_true t1
          have := (HDT.out rfl).2.2
          omega)
        go_wp2_with (first
          | (refine bld 26 #[] rfl rfl rfl builtE ?_)
          | (refine stBlk 26 (.tmp 3) (.tmp 36) rfl rfl rfl rfl HE7.out HZ.out.1 rfl HZ.out.2 ?_; intro w9 hB9 hb9 _ _; have HB9 := Lib.hid hB9; have HE9 := Lib.hid hb9; clear hB9 hb9))
        have hr := HB9.out.range
        exact bodyPost_ret (results_cellR_mid rfl _ rfl hr Try.underlying26 rfl (by rw [Array.length_toList]; exact HZ.out.1)) rfl ⟨HB7.out.trans (HE9.out.mono HGE.out), .inl ⟨HNN.out, rfl⟩⟩
      · have hN62 : (N : Int) ≤ 4611686018427387904 := by have := of_decide_eq_false t1; omega
        have hN0 : (0 : Int) ≤ N := by omega
        have hcv : IntKind.i64.wrap (N : Int) = (N : Int) := IntWalk.i64_in _ (by omega)
        have HXL : Hid (xs.length = 32) := Lib.hid (by have := HDT.out rfl; rw [this.1, List.length_take]; omega)
        have HPE : Hid (prsE s = some (g, (xs, (N : Int)))) := Lib.hid (by
          have h := HDT.out rfl
          unfold prsE
          rw [HP.out]
          simp only
          rw [if_pos ⟨h.2.1, by rw [← h.2.2]; omega⟩, ← h.1, ← h.2.2])
        have hc32 : w7.cell? ⟨gT, 32, none⟩ = some ((copE xs)[32]'(by rw [copE_size]; omega)) := by rw [HT7.out.cell 32]; exact Array.getElem?_eq_getElem _
        have hf32 := HT7.out.frozen 32
        clear HDF
        go_upto_region 11 with fail
        have HB8 : Hid (Below w.heap.size w (w7.setCell ⟨gT, 32, none⟩ (.int .i64 (N : Int))).drew) := Lib.hid ((HB7.out.trans ((Off.refl gT w7).set 32 _ |>.below (by have := HGE.out; omega) HB7.out.size)).drew)
        have HE8 : Hid (Blk (w7.setCell ⟨gT, 32, none⟩ (.int .i64 (N : Int))).drew gE 26 zE) := Lib.hid (((Off.refl gT w7).set 32 _).blk HE7.out (by omega))
        have HT8 : Hid (Blk (w7.setCell ⟨gT, 32, none⟩ (.int .i64 (N : Int))).drew gT 26 (entC xs N).toArray) := Lib.hid (by have := HT7.out.set_ 32 (.int .i64 (N : Int)); rw [copE_set _ _ HXL.out] at this; exact this)
        obtain ⟨w8, hw8⟩ : ∃ w8, w8 = w7.setCell ⟨gT, 32, none⟩ (.int .i64 (N : Int)) := ⟨_, rfl⟩
        rw [← hw8] at HB8 HE8 HT8 ⊢
        have hEL : (entC xs (N : Int)).length = 33 := by simp [entC, u8s_length, HXL.out]
        have HEL : Hid ((Try.prog.info? 26).map (·.size) = some (entC xs (N : Int)).length) := Lib.hid (by rw [hEL]; kernel_rfl)
        have HE1 : Hid (∀ u ∈ entC xs (N : Int), u.oneCell' = true) := Lib.hid (fun u hu => by
          simp only [entC, List.mem_append, List.mem_singleton] at hu
          rcases hu with hu | rfl
          · exact u8s_mem _ u hu
          · rfl)
        have HTR : Hid (w8.drew.rangeAt gT 0 (entC xs (N : Int))) := Lib.hid (by have := HT8.out.range; rw [List.toList_toArray] at this; exact this)
        have HTH : Hid (w8.drew.there gE 0 (entC xs (N : Int)).length) := Lib.hid (there_blk HE8.out (by rw [hEL, zE_size]; exact Nat.le_refl _))
        have HTR2 : Hid ((w8.drew.setCells gE 0 (entC xs (N : Int))).rangeAt gT 0 (entC xs (N : Int))) := Lib.hid (fun i u hi => (World.cell?_of_block (a := ⟨gT, 0 + i, none⟩) (setCells_other (show gT ≠ gE by omega) _ _ _)).trans (HTR.out i u hi))
        clear hw8 hc32 hf32 hEL
        refine held_start 5 (fun w' => w'.rangeAt gT 0 (entC xs (N : Int))) (by kernel_rfl) (by kernel_rfl) (HTR.out) (fun hHeld => ?_)
        refine hMove 0 (Operand.tmp 5) (some 40) (.int .u32 g) (by kernel_rfl) (by kernel_rfl) (by kernel_rfl) (by kernel_rfl) (by kernel_rfl) (fun _ _ _ h => h) (by exact rfl) hHeld ?_
        simp only [Act.put, List.setIfInBounds_toArray, List.set_cons_zero, List.set_cons_succ]
        refine hLoad 1 26 (Operand.tmp 8) (some 41) (cs := entC xs (N : Int)) (by kernel_rfl) (by kernel_rfl) (by kernel_rfl) (by kernel_rfl) (by kernel_rfl) (fun _ _ _ h => h) (by exact rfl) (fun _ hX => hX) Try.underlying26 rfl HEL.out hHeld ?_
        simp only [Act.put, List.setIfInBounds_toArray, List.set_cons_zero, List.set_cons_succ]
        refine hTake 2 (Op.assign (Operand.tmp 40)) (some 2) (.int .u32 g) (by kernel_rfl) (by kernel_rfl) (by kernel_rfl) (by kernel_rfl) (by kernel_rfl) (fun _ _ _ h => h) (fun o ho wX hX => by unfold execOp; simp only [ho]; go_simp) hHeld ?_
        simp only [Act.put, List.setIfInBounds_toArray, List.set_cons_zero, List.set_cons_succ]
        refine wpAnyH_ready (rs := [3]) (by kernel_rfl) (by simp) ?_
        refine rStoreS 3 26 (.tmp 3) (.tmp 41) none (cs := entC xs (N : Int)) (by kernel_rfl) (by kernel_rfl) (by exact rfl) (by exact rfl) HTH.out HEL.out HE1.out HTR2.out ?_ AllReadyH.nil
        simp only [Act.put, List.setIfInBounds_toArray, List.set_cons_zero, List.set_cons_succ]
        replace hHeld := HTR2.out
        refine hTake 4 (Op.assign (Operand.const (Value.bool true))) (some 4) (.bool true) (by kernel_rfl) (by kernel_rfl) (by kernel_rfl) (by kernel_rfl) (by kernel_rfl) (fun _ _ _ h => h) (fun o ho wX hX => by unfold execOp; simp only [ho]; go_simp) hHeld ?_
        simp only [Act.put, List.setIfInBounds_toArray, List.set_cons_zero, List.set_cons_succ]
        refine wpAnyH_done (by kernel_rfl) ?_ _
        clear hHeld
        have hrr := World.rangeAt_setCells_same w8.drew gE 0 (entC xs (N : Int)) HTH.out
        have HBF : Hid (Below w.heap.size w (w8.drew.setCells gE 0 (entC xs (N : Int)))) := Lib.hid (HB8.out.trans (setCells_below HGE.out _ _ _).1)
        obtain ⟨w9, hw9⟩ : ∃ w9, w9 = w8.drew.setCells gE 0 (entC xs (N : Int)) := ⟨_, rfl⟩
        rw [← hw9] at hrr HBF ⊢
        clear hw9
        have HRR := Lib.hid hrr
        clear hrr
        go_wp2_with fail
        exact bodyPost_ret (results_cellR_mid rfl _ rfl HRR.out Try.underlying26 rfl HEL.out) rfl ⟨HBF.out, .inr ⟨g, _, HPE.out, rfl⟩⟩
end Go.Proofs.Ytpkcddnclifcpaa
namespace Go.Proofs.Ytpkcddnclifcpaa
open Go.RowKit
attribute [local irreducible] wpQuiet wpAnyH
set_option linter.unusedSimpArgs false

/-- A write and, if it is done, a sync. -/
def wsD (d : DiskD) (a : Int) (s : List Int) : DiskD := match writeA d a with | some _ => writeD d a s | none => syncS (writeD d a s)
def wsA (d : DiskD) (a : Int) (s : List Int) : Ans := match writeA d a with | some x => some x | none => syncA (writeD d a s)
theorem stepped_room {d : DiskD} (h : d.steps ≤ d.room) : (stepped d).room ≤ d.room + 1 := by show max d.room (d.steps + 1) ≤ d.room + 1; omega
theorem writeD_room {d : DiskD} (h : d.steps ≤ d.room) (a : Int) (s : List Int) : (writeD d a s).room ≤ d.room + 2 := by
  have h1 := stepped_room h
  have h2 := addIf_room (stepped d) a s
  unfold writeD
  split
  · omega
  · split
    · show (addIf (stepped d) a s).room ≤ _; omega
    · split <;> omega
theorem rec_bys (g : Nat) (p : List Int) (hb : Bys p) : Bys (rec g p) := fun b h => by
  unfold rec at h
  rcases List.mem_append.1 h with h | h
  · exact body_bys hb b (List.mem_of_mem_take h)
  · rcases List.mem_append.1 h with h | h
    · exact beB_bys _ _ b h
    · exact beB_bys _ _ b h
theorem neq_nil (t : TypeId) (u : Value) (w : World) : (binOp .neq 37 (.iface t u) .nilIface).run Try.prog w = .ok (.bool true) w := by kernel_rfl

set_option maxRecDepth 100000 in
set_option maxHeartbeats 2000000 in
theorem slot_commit (f z : Int) (g : Nat) (w : World) (m : DiskM) (d : DiskD) (h : DK w m d) (hf : isI64 f) (hg : g < 4294967296) (hr : d.room + 3 ≤ 100000) :
    Calls Try.prog 18 #[.pointer (some ⟨m.g, 0, none⟩), .agg #[.int .i64 f, .int .i64 z], .int .u32 g] w fun e w' => e = .returned (valE (wsA d f (rec g toll))) ∧ ∃ m', DK w' m' (wsD d f (rec g toll)) ∧ DT w m w' m' := by
  have hB0 : Below w.heap.size w (w.alloc (.cells #[.int .i64 f, .int .i64 z] 30)) := (Below.refl _ w).alloc (Nat.le_refl _) _
  obtain ⟨w1, hw1⟩ : ∃ w1, w1 = w.alloc (.cells #[.int .i64 f, .int .i64 z] 30) := ⟨_, rfl⟩
  have HK1 : Hid (DK w1.drew m d) := Lib.hid (by rw [hw1]; exact (h.keep hB0).drew)
  have HB1 : Hid (Below w.heap.size w w1.drew) := Lib.hid (by rw [hw1]; exact hB0.drew)
  have HC1 : Hid (w1.drew.cell? ⟨w.heap.size, 0, none⟩ = some (.int .i64 f)) := Lib.hid (by rw [hw1]; exact (Blk.new w _ #[.int .i64 f, .int .i64 z]).cell 0)
  have HNF := Lib.hid (h.notFoot (Nat.le_refl w.heap.size))
  have HSR : Hid (Sec (rec g toll)) := Lib.hid ⟨rec_length g toll (by decide), rec_bys g toll toll_bys⟩
  have hst := h.ok.st
  clear h hB0
  go_enter Try.func18, Try.ntmps18
  go_upto_region 1 with fail
  rw [← hw1]
  clear hw1
  refine held_start 7 (fun w' => w'.cell? ⟨w.heap.size, 0, none⟩ = some (.int .i64 f)) (by kernel_rfl) (by kernel_rfl) (HC1.out) (fun hHeld => ?_)
  refine hMove 0 (Operand.tmp 0) (some 8) (.pointer (some ⟨m.g, 0, none⟩)) (by kernel_rfl) (by kernel_rfl) (by kernel_rfl) (by kernel_rfl) (by kernel_rfl) (fun _ _ _ h => h) (by exact rfl) hHeld ?_
  simp only [Act.put, List.setIfInBounds_toArray, List.set_cons_zero, List.set_cons_succ]
  refine hTake 1 (Op.fieldAddr 30 (Operand.tmp 4) 0) (some 9) (.pointer (some ⟨w.heap.size, 0, none⟩)) (by kernel_rfl) (by kernel_rfl) (by kernel_rfl) (by kernel_rfl) (by kernel_rfl) (fun _ _ _ h => h) (fun o ho wX hX => by unfold execOp; simp only [ho]; go_simp) hHeld ?_
  simp only [Act.put, List.setIfInBounds_toArray, List.set_cons_zero, List.set_cons_succ]
  refine hTake 2 (Op.load 3 (Operand.tmp 9)) (some 10) (.int .i64 f) (by kernel_rfl) (by kernel_rfl) (by kernel_rfl) (by kernel_rfl) (by kernel_rfl) (fun _ _ _ h => h) (fun o ho wX hX => by unfold execOp; simp only [ho]; go_simp) hHeld ?_
  simp only [Act.put, List.setIfInBounds_toArray, List.set_cons_zero, List.set_cons_succ]
  refine hMove 3 (Operand.tmp 2) (some 11) (.int .u32 g) (by kernel_rfl) (by kernel_rfl) (by kernel_rfl) (by kernel_rfl) (by kernel_rfl) (fun _ _ _ h => h) (by exact rfl) hHeld ?_
  simp only [Act.put, List.setIfInBounds_toArray, List.set_cons_zero, List.set_cons_succ]
  refine wpAnyH_ready (rs := [4]) (by kernel_rfl) (by simp) ?_
  refine rCall 4 (Op.call { callee := Callee.value (Operand.func 36), args := #[Operand.tmp 11], argTypes := #[39] }) (some 12) 36 (#[.int .u32 g]) (by kernel_rfl) (by kernel_rfl) (fun o ho => by unfold execOp; simp only [ho]; go_simp) ?_ AllReadyH.nil
  refine (frame_header g w1.drew hg).mono ?_
  rintro e w2 ⟨rfl, hb2⟩
  have HK2 := Lib.hid (HK1.out.keep hb2)
  have HB2 : Hid (Below w.heap.size w w2) := Lib.hid (bstep HB1.out hb2)
  refine ⟨_, rfl, Below.cell' hb2 hHeld, fun hHeld => ?_⟩
  simp only [Act.put, List.setIfInBounds_toArray, List.set_cons_zero, List.set_cons_succ]
  refine wpAnyH_ready (rs := [5]) (by kernel_rfl) (by simp) ?_
  refine rCall 5 (Op.call { callee := Callee.value (Operand.func 29), args := #[Operand.tmp 8, Operand.tmp 10, Operand.tmp 12], argTypes := #[34, 3, 80] }) (some 13) 29 (#[.pointer (some ⟨m.g, 0, none⟩), .int .i64 f, .agg (u8s (rec g toll)).toArray]) (by kernel_rfl) (by kernel_rfl) (fun o ho => by unfold execOp; simp only [ho]; go_simp) ?_ AllReadyH.nil
  refine (disk_write f (rec g toll) w2 m d HK2.out hf HSR.out (by omega)).mono ?_
  rintro e w3 ⟨rfl, m3, hdk, hdt⟩
  rw [writeE_val]
  refine ⟨_, rfl, hdt.fo.cell hHeld HNF.out, fun hHeld => ?_⟩
  simp only [Act.put, List.setIfInBounds_toArray, List.set_cons_zero, List.set_cons_succ]
  refine hTake 6 (Op.assign (Operand.tmp 13)) (some 7) (valE (writeA d f)) (by kernel_rfl) (by kernel_rfl) (by kernel_rfl) (by kernel_rfl) (by kernel_rfl) (fun _ _ _ h => h) (fun o ho wX hX => by unfold execOp; simp only [ho]; go_simp) hHeld ?_
  simp only [Act.put, List.setIfInBounds_toArray, List.set_cons_zero, List.set_cons_succ]
  refine wpAnyH_done (by kernel_rfl) ?_ _
  clear hHeld
  have HDT : Hid (DT w m w3 m3) := Lib.hid ((DT.of_below HB2.out).trans hdt)
  have HDK := Lib.hid hdk
  have HRM : Hid ((writeD d f (rec g toll)).room ≤ d.room + 2) := Lib.hid (writeD_room hst f _)
  clear hdk hdt
  have hg3 : m3.g = m.g := HDT.out.g
  cases ha : writeA d f with
  | some x =>
    have HF : Hid (wsA d f (rec g toll) = some x ∧ wsD d f (rec g toll) = writeD d f (rec g toll)) := Lib.hid (by unfold wsA wsD; rw [ha]; exact ⟨rfl, rfl⟩)
    obtain ⟨t, u, hv⟩ := valE_form x
    rw [hv]
    have HV := Lib.hid hv
    have hne := neq_nil t u
    clear ha hv
    go_wp2_with fail
    go_ret
    exact ⟨by rw [HF.out.1, HV.out]; rfl, m3, by rw [HF.out.2]; exact HDK.out, HDT.out⟩
  | none =>
    have HF : Hid (wsA d f (rec g toll) = syncA (writeD d f (rec g toll)) ∧ wsD d f (rec g toll) = syncS (writeD d f (rec g toll))) := Lib.hid (by unfold wsA wsD; rw [ha]; exact ⟨rfl, rfl⟩)
    have hv : valE none = .nilIface := rfl
    rw [hv]
    clear ha
    go_wp2_with fail
    rw [← hg3]
    refine (disk_sync w3 m3 _ HDK.out (by have := HRM.out; omega)).mono ?_
    rintro e w4 ⟨rfl, m4, hdk4, hdt4⟩
    have HD4 := Lib.hid hdk4
    have HT4 : Hid (DT w m w4 m4) := Lib.hid (HDT.out.trans hdt4)
    clear hdk4 hdt4
    go_wp2_with fail
    go_ret
    exact ⟨by rw [HF.out.1, ← syncE_val]; rfl, m4, by rw [HF.out.2]; exact HD4.out, HT4.out⟩
end Go.Proofs.Ytpkcddnclifcpaa
namespace Go.Proofs.Ytpkcddnclifcpaa
open Go.RowKit
attribute [local irreducible] wpQuiet wpAnyH
set_option linter.unusedSimpArgs false

def putD (d : DiskD) (f z p : Int) (g : Nat) (q : List Int × Int) : DiskD := if p < 1 then d else if room z < p then d else if rightE q then wsD d (f + p) (entRec g q) else d
def putA (d : DiskD) (f z p : Int) (g : Nat) (q : List Int × Int) : Ans := if p < 1 then some (13, none) else if room z < p then some (13, none) else if rightE q then wsA d (f + p) (entRec g q) else some (15, none)
theorem entRec_sec (g : Nat) {q : List Int × Int} (hq : EntOk q) : Sec (entRec g q) := by
  have hl : (q.1 ++ beB 8 q.2.toNat).length = 40 := by rw [List.length_append, beB_length, hq.dig.len]
  refine ⟨rec_length g _ (by rw [hl]; omega), rec_bys g _ fun b hb => ?_⟩
  rcases List.mem_append.1 hb with hb | hb
  · exact hq.dig.byte b hb
  · exact beB_bys _ _ b hb
theorem pick_sec (g : Nat) {q : List Int × Int} (hq : EntOk q) : Sec (if rightE q then entRec g q else zsec) := by
  split
  · exact entRec_sec g hq
  · exact zsec_sec

set_option maxRecDepth 100000 in
set_option maxHeartbeats 2000000 in
theorem slot_put (f z p : Int) (g : Nat) (q : List Int × Int) (w : World) (m : DiskM) (d : DiskD) (h : DK w m d) (hf : 0 ≤ f ∧ f ≤ 100000) (hz : isI64 z ∧ z ≤ 100000) (hp : isI64 p) (hg : g < 4294967296) (hq : EntOk q) (hr : d.room + 3 ≤ 100000) :
    Calls Try.prog 11 #[.pointer (some ⟨m.g, 0, none⟩), .agg #[.int .i64 f, .int .i64 z], .int .i64 p, .int .u32 g, .agg (entP q).toArray] w fun e w' => e = .returned (valE (putA d f z p g q)) ∧ ∃ m', DK w' m' (putD d f z p g q) ∧ DT w m w' m' := by
  have hB0 : Below w.heap.size w ((w.alloc (.cells #[.int .i64 f, .int .i64 z] 30)).alloc (.cells (entP q).toArray 26)) := ((Below.refl _ w).alloc (Nat.le_refl _) _).alloc (by simp) _
  obtain ⟨w1, hw1⟩ : ∃ w1, w1 = (w.alloc (.cells #[.int .i64 f, .int .i64 z] 30)).alloc (.cells (entP q).toArray 26) := ⟨_, rfl⟩
  have HK1 : Hid (DK w1 m d) := Lib.hid (by rw [hw1]; exact h.keep hB0)
  have HB1 : Hid (Below w.heap.size w w1) := Lib.hid (by rw [hw1]; exact hB0)
  have HX1 : Hid (Blk w1 w.heap.size 30 #[.int .i64 f, .int .i64 z]) := Lib.hid (by rw [hw1]; exact (Blk.new w _ _).alloc _)
  have HR1 : Hid (w1.rangeAt w.heap.size 0 [.int .i64 f, .int .i64 z]) := Lib.hid (by have := HX1.out.range; exact this)
  have HE1 : Hid (Blk w1 (w.heap.size + 1) 26 (entP q).toArray) := Lib.hid (by rw [hw1]; exact Blk.newAt _ _ _ _ (by simp))
  have HNF := Lib.hid (h.notFoot (Nat.le_refl w.heap.size))
  have HSR : Hid (Sec (entRec g q)) := Lib.hid (entRec_sec g hq)
  have HSP := Lib.hid (pick_sec g hq)
  have HEL : Hid ((Try.prog.info? 26).map (·.size) = some (entP q).length) := Lib.hid (by rw [entP_length q hq]; kernel_rfl)
  have HPZ : Hid ((Try.prog.info? 80).map (·.size) = some (u8s (if rightE q then entRec g q else zsec)).toArray.size ∧ z64.size = (u8s (if rightE q then entRec g q else zsec)).toArray.size) := Lib.hid ⟨by rw [List.size_toArray, sec_length HSP.out]; kernel_rfl, by rw [z64_size, List.size_toArray, sec_length HSP.out]⟩
  have hst := h.ok.st
  have hf1 : 0 ≤ f := hf.1
  have hf2 : f ≤ 100000 := hf.2
  have hp1 : -9223372036854775808 ≤ p := hp.1
  have hp2 : p ≤ 9223372036854775807 := hp.2
  have hrz : room z ≤ 100000 := by unfold room; split <;> omega
  clear h hB0 hf hp
  rcases Bool.eq_false_or_eq_true (decide (p < 1)) with t1 | t1
  · have HF : Hid (putA d f z p g q = some (13, none) ∧ putD d f z p g q = d) := Lib.hid (by unfold putA putD; rw [if_pos (of_decide_eq_true t1), if_pos (of_decide_eq_true t1)]; exact ⟨rfl, rfl⟩)
    go_enter Try.func11, Try.ntmps11
    go_upto_region 1 with fail
    rw [← hw1]
    clear hw1
    go_wp2_with fail
    go_ret
    exact ⟨by rw [HF.out.1]; rfl, m, by rw [HF.out.2]; exact HK1.out, DT.of_below HB1.out⟩
  · have hp0 : ¬ p < 1 := of_decide_eq_false t1
    go_enter Try.func11, Try.ntmps11
    go_upto_region 1 with fail
    rw [← hw1]
    clear hw1
    go_wp2_with (refine ld 30 _ rfl rfl rfl HR1.out Try.underlying30 rfl (by kernel_rfl) ?_)
    refine (slot_room f z w1 hz.1).mono ?_
    rintro e w2 ⟨rfl, hb2⟩
    have HB2 : Hid (Below w.heap.size w w2) := Lib.hid (bstep HB1.out hb2)
    have HX2 : Hid (Blk w2 w.heap.size 30 #[.int .i64 f, .int .i64 z]) := Lib.hid (HX1.out.keep hb2)
    have HE2 : Hid (w2.rangeAt (w.heap.size + 1) 0 (entP q)) := Lib.hid (by have := (HE1.out.keep hb2).range; rw [List.toList_toArray] at this; exact this)
    have HK2 := Lib.hid (HK1.out.keep hb2)
    obtain ⟨R, hR⟩ : ∃ R, R = room z := ⟨_, rfl⟩
    have HRR := Lib.hid hR
    rw [← hR] at hrz ⊢
    clear hb2 hR
    rcases Bool.eq_false_or_eq_true (decide (R < p)) with t2 | t2
    · have HF : Hid (putA d f z p g q = some (13, none) ∧ putD d f z p g q = d) := Lib.hid (by unfold putA putD; rw [if_neg (show ¬ p < 1 by omega), if_neg (show ¬ p < 1 by omega), ← HRR.out, if_pos (of_decide_eq_true t2), if_pos (of_decide_eq_true t2)]; exact ⟨rfl, rfl⟩)
      clear hp0
      go_wp2_with fail
      go_ret
      exact ⟨by rw [HF.out.1]; rfl, m, by rw [HF.out.2]; exact HK2.out, DT.of_below HB2.out⟩
    · have hp3 : p ≤ R := by have := of_decide_eq_false t2; omega
      have HF0 : Hid (putA d f z p g q = (if rightE q then wsA d (f + p) (entRec g q) else some (15, none)) ∧ putD d f z p g q = (if rightE q then wsD d (f + p) (entRec g q) else d)) := Lib.hid (by unfold putA putD; rw [if_neg (show ¬ p < 1 by omega), if_neg (show ¬ p < 1 by omega), ← HRR.out, if_neg (of_decide_eq_false t2), if_neg (of_decide_eq_false t2)]; exact ⟨rfl, rfl⟩)
      have hp4 : 1 ≤ p := by omega
      clear hp0 HRR
      go_wp2_with (refine ld 26 _ rfl rfl rfl HE2.out Try.underlying26 rfl HEL.out ?_)
      refine (frame_entry g q w2 hq hg).mono ?_
      rintro e w3 ⟨rfl, hb3⟩
      have HB3 : Hid (Below w.heap.size w w3) := Lib.hid (bstep HB2.out hb3)
      have HX3 : Hid (Blk w3 w.heap.size 30 #[.int .i64 f, .int .i64 z]) := Lib.hid (HX2.out.keep hb3)
      have HK3 := Lib.hid (HK2.out.keep hb3)
      have hlt3 : w.heap.size < w3.heap.size := HX3.out.lt
      clear hb3
      obtain ⟨S, hS⟩ : ∃ S, S = (if rightE q then entRec g q else zsec) := ⟨_, rfl⟩
      rw [← hS] at HPZ HSP ⊢
      have HS1 := Lib.hid (u8s_one S)
      cases hrq : rightE q with
      | false =>
        have HF : Hid (putA d f z p g q = some (15, none) ∧ putD d f z p g q = d) := Lib.hid (by rw [HF0.out.1, HF0.out.2, hrq]; exact ⟨rfl, rfl⟩)
        clear hrq hS HF0
        go_wp2_with (first
          | (refine al 80 z64 rfl rfl zero64 ?_)
          | (refine stNew 80 (.tmp 11) (.tmp 27) rfl rfl rfl rfl HPZ.out.1 HPZ.out.2 HS1.out ?_; intro w4 hK hb4 hz4; have HB4 := Lib.hid hb4; clear hK hb4 hz4))
        go_ret
        exact ⟨by rw [HF.out.1]; rfl, m, by rw [HF.out.2]; exact HK3.out.keep HB4.out, DT.of_below (HB3.out.trans (HB4.out.mono HB3.out.size))⟩
      | true =>
        rw [hrq] at hS HF0
        replace hS : S = entRec g q := hS
        replace HF0 : Hid (putA d f z p g q = wsA d (f + p) (entRec g q) ∧ putD d f z p g q = wsD d (f + p) (entRec g q)) := HF0
        rw [← hS] at HF0
        clear hrq hS
        have hcb : ∀ w4, Below w3.heap.size w3 w4 → w4.cell? ⟨w.heap.size, 0, none⟩ = some (.int .i64 f) := fun w4 hb => (HX3.out.keep hb).cell 0
        have HCB := Lib.hid hcb
        have HUS : Hid ((Try.prog.info? 80).map (·.size) = some (u8s S).length) := Lib.hid (by rw [sec_length HSP.out]; kernel_rfl)
        clear hcb
        go_wp2_with (first
          | (refine al 80 z64 rfl rfl zero64 ?_)
          | (refine stNew 80 (.tmp 11) (.tmp 27) rfl rfl rfl rfl HPZ.out.1 HPZ.out.2 HS1.out ?_; intro w4 hK hb4 hz4; have HB4 := Lib.hid hb4; have HR4 : Hid (w4.rangeAt w3.heap.size 0 (u8s S)) := Lib.hid (by have := Blk.range (show Blk w4 w3.heap.size 80 (u8s S).toArray from hK); rw [List.toList_toArray] at this; exact this); have hc4 := HCB.out w4 hb4; clear hK hb4 hz4)
          | (refine ld 80 _ rfl rfl rfl HR4.out Try.underlying80 rfl HUS.out ?_))
        have HK4 := Lib.hid (HK3.out.keep HB4.out)
        have HB40 : Hid (Below w.heap.size w w4) := Lib.hid (HB3.out.trans (HB4.out.mono HB3.out.size))
        refine (disk_write (f + p) S w4 m d HK4.out ⟨by omega, by omega⟩ HSP.out (by omega)).mono ?_
        rintro e w5 ⟨rfl, m5, hdk, hdt⟩
        rw [writeE_val]
        have HDT : Hid (DT w m w5 m5) := Lib.hid ((DT.of_below HB40.out).trans hdt)
        have HDK := Lib.hid hdk
        have HRM : Hid ((writeD d (f + p) S).room ≤ d.room + 2) := Lib.hid (writeD_room hst (f + p) _)
        clear hdk hdt hc4
        have hg3 : m5.g = m.g := HDT.out.g
        cases ha : writeA d (f + p) with
        | some x =>
          have HF : Hid (putA d f z p g q = some x ∧ putD d f z p g q = writeD d (f + p) S) := Lib.hid (by rw [HF0.out.1, HF0.out.2]; unfold wsA wsD; rw [ha]; exact ⟨rfl, rfl⟩)
          obtain ⟨t, u, hv⟩ := valE_form x
          rw [hv]
          have HV := Lib.hid hv
          have hne := neq_nil t u
          clear ha hv
          go_wp2_with fail
          go_ret
          exact ⟨by rw [HF.out.1, HV.out]; rfl, m5, by rw [HF.out.2]; exact HDK.out, HDT.out⟩
        | none =>
          have HF : Hid (putA d f z p g q = syncA (writeD d (f + p) S) ∧ putD d f z p g q = syncS (writeD d (f + p) S)) := Lib.hid (by rw [HF0.out.1, HF0.out.2]; unfold wsA wsD; rw [ha]; exact ⟨rfl, rfl⟩)
          have hv : valE none = .nilIface := rfl
          rw [hv]
          clear ha
          go_wp2_with fail
          rw [← hg3]
          refine (disk_sync w5 m5 _ HDK.out (by have := HRM.out; omega)).mono ?_
          rintro e w6 ⟨rfl, m6, hdk4, hdt4⟩
          have HD4 := Lib.hid hdk4
          have HT4 : Hid (DT w m w6 m6) := Lib.hid (HDT.out.trans hdt4)
          clear hdk4 hdt4
          go_wp2_with fail
          go_ret
          exact ⟨by rw [HF.out.1, ← syncE_val]; rfl, m6, by rw [HF.out.2]; exact HD4.out, HT4.out⟩
end Go.Proofs.Ytpkcddnclifcpaa
