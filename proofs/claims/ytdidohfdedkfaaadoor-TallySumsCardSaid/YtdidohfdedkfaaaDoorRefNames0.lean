/- The reference's table of names, and its Name. -/
import Derived.Test.YtdidohfdedkfaaaDoorNames
namespace Go.Proofs.YtdidohfdedkfaaaDoor
open Go.RowKit

def ReadsNames (w : World) (e : Ending) (w' : World) : Prop := ∃ b, e = .returned (.slice (some ⟨b, 0, none⟩) 17 17) ∧ Below w.heap.size w w' ∧ (∀ j, j < 17 → w'.cell? ⟨b, j, none⟩ = some (.string (nameOf j)))

theorem names_cells (c : Nat) (h : c < 17) : (strs namesL)[c]? = some (.string (nameOf c)) := by
  have hc : c = 0 ∨ c = 1 ∨ c = 2 ∨ c = 3 ∨ c = 4 ∨ c = 5 ∨ c = 6 ∨ c = 7 ∨ c = 8 ∨ c = 9 ∨ c = 10 ∨ c = 11 ∨ c = 12 ∨ c = 13 ∨ c = 14 ∨ c = 15 ∨ c = 16 := by omega
  rcases hc with rfl | rfl | rfl | rfl | rfl | rfl | rfl | rfl | rfl | rfl | rfl | rfl | rfl | rfl | rfl | rfl | rfl <;> rfl

set_option maxHeartbeats 400000 in
theorem ref_names (w : World) : Calls Tryd.prog 28 #[] w (ReadsNames w) := by
  go_enter Tryd.func28, Tryd.ntmps28
  go_wp2
  go_ret
  refine ⟨w.heap.size, rfl, (by repeat (first | exact Below.refl _ _ | assumption | refine bdrewN ?_ _ | refine Below.setCell ?_ (by first | exact Nat.le_refl _ | assumption | omega | (simp <;> omega)) _ | refine Below.alloc ?_ (by first | exact Nat.le_refl _ | assumption | omega | (simp <;> omega)) _)), fun j hj => ?_⟩
  rw [← names_cells j hj]
  simp [go_sem, strs, namesL]

set_option maxHeartbeats 400000 in
theorem ref_name_any (c : Int) (w : World) :
    Calls Tryd.prog 25 #[.int .i64 c] w fun e w' => e = .returned (.string (nameOf c)) ∧ Below w.heap.size w w' := by
  by_cases h : c < 0 ∨ 16 < c
  · have hn := Lib.hid (nameOf_out c h)
    rcases h with hc | hc
    all_goals
      go_enter Tryd.func25, Tryd.ntmps25
      go_wp2_with fail
      go_ret
      exact ⟨by rw [hn.out]; rfl, Below.refl _ _⟩
  · obtain ⟨n, rfl⟩ : ∃ n : Nat, c = n := ⟨c.toNat, by omega⟩
    have h0 : ¬ ((n : Int) < 0) := by omega
    have h1 : ¬ ((16 : Int) < n) := by omega
    have h2 : (n : Int) < 17 := by omega
    clear h
    go_enter Tryd.func25, Tryd.ntmps25
    go_wp2_with fail
    refine (ref_names w).mono ?_
    rintro e w1 ⟨b, rfl, hb, hc⟩
    have hcell := hc n (by omega)
    clear hc
    go_wp2_with fail
    go_ret
    exact ⟨rfl, hb⟩

end Go.Proofs.YtdidohfdedkfaaaDoor
