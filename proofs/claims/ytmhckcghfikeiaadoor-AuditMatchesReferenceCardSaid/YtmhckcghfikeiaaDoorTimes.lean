/- times.Add of two numbers; tollref03.Add. -/
import Derived.Test.YtmhckcghfikeiaaDoorAud0
import Derived.Test.YtmhckcghfikeiaaDoorBlk
import Derived.Test.YtmhckcghfikeiaaDoorQLoad
import Derived.BigQuiet
import Derived.OneCell
namespace Go.Proofs.YtmhckcghfikeiaaDoor
open Go.RowKit
attribute [local irreducible] wpQuiet wpAnyH
set_option linter.unusedSimpArgs false

theorem ret_i64 {a b : Int} (h : a = b) : Ending.returned (.int .i64 a) = .returned (.int .i64 b) := by rw [h]
def Put1 (w : World) (g : Nat) (z : Int) (w' : World) : Prop := w' = w.setCell ⟨g, 0, none⟩ (.int .i64 z)
set_option maxRecDepth 100000 in
set_option maxHeartbeats 1000000 in
theorem add1_any (a b : Int) (g : Nat) (t : TypeId) (w : World) (ha : isI64 a) (hb : isI64 b) (hB : Blk w g t #[.int .i64 a]) :
    Calls Tryd.prog 40 #[.int .i64 b, .pointer (some ⟨g, 0, none⟩)] w fun e w' => e = .returned (.tuple #[]) ∧ Put1 w g (addS a b) w' := by
  have hc := hB.cell 0
  have hf := hB.frozen 0
  simp only [List.getElem?_toArray, List.getElem?_cons_zero] at hc
  obtain ⟨s, hs⟩ : ∃ s, wrap64 (a + b) = s := ⟨_, rfl⟩
  have hwr : (-9223372036854775808 ≤ a + b ∧ a + b ≤ 9223372036854775807 ∧ s = a + b) ∨ (9223372036854775807 < a + b ∧ s = a + b - 18446744073709551616) ∨ (a + b < -9223372036854775808 ∧ s = a + b + 18446744073709551616) := by
    rw [← hs]
    unfold isI64 at ha hb
    unfold wrap64
    omega
  have HW := Lib.hid hwr
  have HA := Lib.hid ha
  have HB' := Lib.hid hb
  clear hwr ha hb hB
  have hq : addS a b = if 9223372036854775807 < a + b then 9223372036854775807 else if a + b < -9223372036854775808 then -9223372036854775808 else a + b := rfl
  have HQ := Lib.hid hq
  clear hq
  rcases Bool.eq_false_or_eq_true (decide (0 ≤ a)) with t1 | t1 <;> rcases Bool.eq_false_or_eq_true (decide (0 ≤ b)) with t2 | t2 <;> rcases Bool.eq_false_or_eq_true (decide (s < 0)) with t3 | t3
  all_goals
    have n1 : decide (a < 0) = !decide (0 ≤ a) := by by_cases h : 0 ≤ a <;> simp [h] <;> omega
    have n2 : decide (b < 0) = !decide (0 ≤ b) := by by_cases h : 0 ≤ b <;> simp [h] <;> omega
    have n3 : decide (0 ≤ s) = !decide (s < 0) := by by_cases h : 0 ≤ s <;> simp [h] <;> omega
    rw [t1] at n1
    rw [t2] at n2
    rw [t3] at n3
    simp only [Bool.not_true, Bool.not_false] at n1 n2 n3
    go_enter Tryd.func40, Tryd.ntmps40
    go_wp2_with fail
    go_end0
    refine ⟨rfl, ?_⟩
    unfold Put1
    rw [HQ.out]
    have h1 := HW.out
    have h2 := HA.out
    have h3 := HB'.out
    unfold isI64 at h2 h3
    simp only [decide_eq_true_eq, decide_eq_false_iff_not] at t1 t2 t3
    first
      | (rw [if_pos (by omega)])
      | (rw [if_neg (by omega), if_pos (by omega)])
      | (rw [if_neg (by omega), if_neg (by omega)]; congr 2; omega)

set_option maxRecDepth 100000 in
set_option maxHeartbeats 1000000 in
theorem add_any (a b : Int) (v : Value) (w : World) (ha : isI64 a) (hb : isI64 b) (hs : Sl w v [.int .i64 b]) :
    Calls Tryd.prog 35 #[.int .i64 a, v] w fun e w' => e = .returned (.int .i64 (addS a b)) ∧ Below w.heap.size w w' := by
  obtain ⟨A, cap, rfl, hcap, hx⟩ := hs
  obtain ⟨bk, off, rfl, hcell⟩ := hx (by simp)
  have hc0 := hcell 0 _ rfl
  have hlt := cell_lt hc0
  simp only [List.length_cons, List.length_nil, Nat.zero_add, Nat.add_zero] at hc0 hcap hlt ⊢
  have HA := Lib.hid ha
  have HB := Lib.hid hb
  have HC := Lib.hid hc0
  clear hcell hx ha hb hc0
  go_enter Tryd.func35, Tryd.ntmps35
  go_wp2_with fail
  go_loopw [11] (fun i wr => ∃ k : Nat, k ≤ 1 ∧ i = .int .i64 k ∧ Blk wr w.heap.size 2 #[.int .i64 (if k = 0 then a else addS a b)] ∧ Below w.heap.size w wr) (fun i _ => 1 - (intOf i).toNat)
  case atStart => exact ⟨0, by omega, rfl, Blk.new _ _ _, (Below.refl _ _).alloc (Nat.le_refl _) _⟩
  case round =>
    obtain ⟨k, hk, rfl, hB, hbl⟩ := hrel
    rcases Nat.lt_or_ge k 1 with hlt1 | hge
    · obtain rfl : k = 0 := by omega
      rw [if_pos rfl] at hB
      have hc := Below.cell' (w := w) (w' := wr) ⟨hbl.os, hbl.tape, hbl.output, hbl.size, hbl.block⟩ HC.out
      have HBl := Lib.hid hB
      have hbl2 := Lib.hid hbl
      clear hB hbl
      go_wp2_with (go_at_call 40; refine (add1_any a b w.heap.size _ wr HA.out HB.out HBl.out).mono ?_; rintro e w' ⟨rfl, rfl⟩)
      exact ⟨⟨1, by omega, by go_num, by rw [if_neg (by omega)]; exact HBl.out.set_ 0 _, hbl2.out.setCell (Nat.le_refl _) _⟩, by simp [intOf]⟩
    · obtain rfl : k = 1 := by omega
      rw [if_neg (by omega)] at hB
      have hc := hB.cell 0
      simp only [List.getElem?_toArray, List.getElem?_cons_zero] at hc
      go_wp2_with fail
      go_ret
      exact ⟨rfl, hbl⟩

set_option maxRecDepth 100000 in
set_option maxHeartbeats 1000000 in
theorem ref_add_any (a b : Int) (w : World) (ha : isI64 a) (hb : isI64 b) :
    Calls Tryd.prog 20 #[.int .i64 a, .int .i64 b] w fun e w' => e = .returned (.int .i64 (addS a b)) ∧ w = w' := by
  have h1 : -9223372036854775808 ≤ a := ha.1
  have h2 : a ≤ 9223372036854775807 := ha.2
  have h3 : -9223372036854775808 ≤ b := hb.1
  have h4 : b ≤ 9223372036854775807 := hb.2
  clear ha hb
  go_enter Tryd.func20, Tryd.ntmps20
  go_wp2_with fail
  all_goals
    go_ret
    refine ⟨ret_i64 ?_, rfl⟩
    unfold addS
    first
      | (rw [if_pos (by omega)])
      | (rw [if_neg (by omega), if_pos (by omega)])
      | (rw [if_neg (by omega), if_neg (by omega)]; omega)
end Go.Proofs.YtmhckcghfikeiaaDoor
