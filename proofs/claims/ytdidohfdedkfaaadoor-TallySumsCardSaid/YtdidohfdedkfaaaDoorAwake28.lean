/- tolllaw28.awake: it answers true. -/
import Derived.Test.YtdidohfdedkfaaaDoorTallyText
namespace Go.Proofs.YtdidohfdedkfaaaDoor
open Go.RowKit

theorem cx_lit (a b : Nat) (x y : Nat) (h1 : flw a = x) (h2 : flw b = y) : Value.complex .f64 x y = cx a b := by unfold cx; rw [h1, h2]
theorem cx_23 : Value.complex .f64 4611686018427387904 4613937818241073152 = cx 2 3 := cx_lit 2 3 _ _ (by decide) (by decide)
theorem calls_at {P : Program} {f : FuncId} {args : Array Value} {Q : Ending → World → Prop} (w' : World) (h : ∀ w1, w1 = w' → Calls P f args w1 Q) : Calls P f args w' Q := h _ rfl
def rz (k c : Int) : RowD := { kind := k, code := c, now := 0, live := 0, dig := List.replicate 32 0 }
def l0 : List RowD := [rz 3 10, rz 3 6, rz 2 0]

set_option maxRecDepth 100000 in
set_option maxHeartbeats 2000000 in
theorem awake_any (w : World) (ht : Tab w) :
    Calls Tryd.prog 7 #[] w fun e w' => e = .returned (.bool true) ∧ Below w.heap.size w w' := by
  go_enter Tryd.func7, Tryd.ntmps7
  go_wp2_with fail
  rw [cx_23]
  refine calls_at (w.alloc (.cells (l0.flatMap rowC).toArray 53)) (fun w1 hw1 => ?_)
  have hb0 : Below w.heap.size w w1 := by rw [hw1]; exact (by repeat (first | exact Below.refl _ _ | assumption | refine bdrewN ?_ _ | refine Below.setCell ?_ (by first | exact Nat.le_refl _ | assumption | omega | (simp <;> omega)) _ | refine Below.alloc ?_ (by first | exact Nat.le_refl _ | assumption | omega | (simp <;> omega)) _))
  have hsn : Sn w1 36 (.slice (some ⟨w.heap.size, 0, none⟩) 3 3) 3 (l0.flatMap rowC) := by
    rw [hw1]
    have h := Sn.new w (l0.flatMap rowC).toArray 53 36 3 (by decide)
    rwa [List.toList_toArray] at h
  clear hw1
  have hok : ∀ r ∈ l0, RowOk r := by
    have key : ∀ k c, (k = 3 ∨ k = 2) → 0 ≤ c ∧ c ≤ 10 → RowOk (rz k c) := fun k c hk hc => ⟨by constructor <;> (simp only [rz]; omega), by constructor <;> (simp only [rz]; omega), by constructor <;> (simp only [rz]; omega), by constructor <;> (simp only [rz]; omega), by simp [rz], by simp [rz]⟩
    intro r hr
    simp only [l0, List.mem_cons, List.mem_nil_iff, or_false] at hr
    rcases hr with rfl | rfl | rfl
    · exact key 3 10 (.inl rfl) (by omega)
    · exact key 3 6 (.inl rfl) (by omega)
    · exact key 2 0 (.inr rfl) (by omega)
  refine (split_any 2 3 w1 (by decide) (by decide)).mono ?_
  rintro e w2 ⟨rfl, rfl⟩
  go_wp2_with fail
  rw [cx_23]
  have hT := text_any 2 3 w1 (ht.below hb0) (by decide) (by decide)
  rw [show textOf 2 3 = ⟨#[50, 32, 111, 102, 32, 53]⟩ by decide +kernel] at hT
  refine hT.mono ?_
  rintro e w2 ⟨rfl, hb2⟩
  go_wp2_with fail
  refine (of_any _ l0 w2 (hsn.below hb2) hok (by decide)).mono ?_
  rw [show nAcc l0 = 1 by decide, show nOth l0 = 1 by decide]
  rintro e w3 ⟨rfl, hb3⟩
  have hx := Lib.hid (show Value.complex .f64 4607182418800017408 4607182418800017408 = cx 1 1 from cx_lit 1 1 _ _ (by decide) (by decide))
  clear hT
  go_wp2_with (refine cEq 32 (.tmp 16) (.const (.complex .f64 4607182418800017408 4607182418800017408)) rfl rfl rfl hx.out rfl rfl (by decide) (by decide) ?_)
  rw [show Value.complex .f64 0 4607182418800017408 = cx 0 1 from cx_lit 0 1 _ _ (by decide) (by decide), show Value.complex .f64 4611686018427387904 0 = cx 2 0 from cx_lit 2 0 _ _ (by decide) (by decide)]
  have hb4 : Below w3.heap.size w3 (w3.alloc (.cells #[cx 0 1, cx 2 0] 32)) := (by repeat (first | exact Below.refl _ _ | assumption | refine bdrewN ?_ _ | refine Below.setCell ?_ (by first | exact Nat.le_refl _ | assumption | omega | (simp <;> omega)) _ | refine Below.alloc ?_ (by first | exact Nat.le_refl _ | assumption | omega | (simp <;> omega)) _))
  have hS := sum_any _ [(0, 1), (2, 0)] (w3.alloc (.cells #[cx 0 1, cx 2 0] 32)) (Sn.sl (Sn.new w3 #[cx 0 1, cx 2 0] 32 1 2 rfl)) (by decide) (by decide) (by decide)
  rw [show sum1 [(0, 1), (2, 0)] = 2 by decide, show sum2 [(0, 1), (2, 0)] = 1 by decide] at hS
  refine hS.mono ?_
  clear hS
  have hbX := bstep (bstep (bstep hb0 hb2) hb3) hb4
  have hsn4 := ((hsn.below hb2).below hb3).below hb4
  clear hb2 hb3 hb4
  rintro e w4 ⟨rfl, hw4⟩
  rw [hw4] at hbX hsn4
  clear hw4
  have hx2 := Lib.hid (show Value.complex .f64 4611686018427387904 4607182418800017408 = cx 2 1 from cx_lit 2 1 _ _ (by decide) (by decide))
  go_wp2_with (refine cEq 32 (.tmp 29) (.const (.complex .f64 4611686018427387904 4607182418800017408)) rfl rfl rfl hx2.out rfl rfl (by decide) (by decide) ?_)
  have hR := report_any _ l0 w4 (ht.below hbX) hsn4 hok (by decide)
  rw [show repAll l0 = ⟨#[83, 75, 69, 87, 32, 49, 10, 65, 67, 67, 69, 80, 84, 32, 49, 10, 97, 108, 108, 32, 49, 32, 111, 102, 32, 50, 10]⟩ by decide +kernel] at hR
  refine hR.mono ?_
  clear hR
  rintro e w5 ⟨rfl, hb5⟩
  go_wp2_with fail
  go_ret
  exact ⟨rfl, bstep hbX hb5⟩
end Go.Proofs.YtdidohfdedkfaaaDoor
