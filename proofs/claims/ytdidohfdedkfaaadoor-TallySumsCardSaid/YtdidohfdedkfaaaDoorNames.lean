/- Names of codes: fault.Name, fault.Parse and the reference's table. -/
import Derived.Test.YtdidohfdedkfaaaDoorWords
namespace Go.Proofs.YtdidohfdedkfaaaDoor
open Go.RowKit

/-- The table of names. -/
def namesL : List ByteArray := [⟨#[78, 79, 78, 69]⟩, ⟨#[77, 65, 76, 70, 79, 82, 77, 69, 68]⟩, ⟨#[66, 65, 68, 95, 73, 78, 84, 69, 71, 82, 73, 84, 89]⟩, ⟨#[84, 75, 84, 95, 78, 89, 86]⟩, ⟨#[84, 75, 84, 95, 69, 88, 80, 73, 82, 69, 68]⟩, ⟨#[66, 65, 68, 77, 65, 84, 67, 72]⟩, ⟨#[83, 75, 69, 87]⟩, ⟨#[81, 85, 65, 82, 65, 78, 84, 73, 78, 69]⟩, ⟨#[82, 69, 80, 69, 65, 84]⟩, ⟨#[83, 84, 79, 82, 65, 71, 69]⟩, ⟨#[65, 67, 67, 69, 80, 84]⟩, ⟨#[70, 65, 73, 76, 69, 68]⟩, ⟨#[68, 79, 87, 78]⟩, ⟨#[70, 85, 76, 76]⟩, ⟨#[67, 79, 82, 82, 85, 80, 84]⟩, ⟨#[66, 65, 68]⟩, ⟨#[83, 89, 78, 84, 65, 88]⟩]
/-- The name of a code; empty for numbers that are none. -/
def nameOf (c : Int) : ByteArray := if 0 ≤ c ∧ c ≤ 16 then namesL.getD c.toNat ByteArray.empty else ByteArray.empty
theorem nameOf_out (c : Int) (h : c < 0 ∨ 16 < c) : nameOf c = ByteArray.empty := by unfold nameOf; rw [if_neg (by omega)]
theorem names_get (c : Nat) (h : c < 17) : ([Value.string ⟨#[78, 79, 78, 69]⟩, Value.string ⟨#[77, 65, 76, 70, 79, 82, 77, 69, 68]⟩, Value.string ⟨#[66, 65, 68, 95, 73, 78, 84, 69, 71, 82, 73, 84, 89]⟩, Value.string ⟨#[84, 75, 84, 95, 78, 89, 86]⟩, Value.string ⟨#[84, 75, 84, 95, 69, 88, 80, 73, 82, 69, 68]⟩, Value.string ⟨#[66, 65, 68, 77, 65, 84, 67, 72]⟩, Value.string ⟨#[83, 75, 69, 87]⟩, Value.string ⟨#[81, 85, 65, 82, 65, 78, 84, 73, 78, 69]⟩, Value.string ⟨#[82, 69, 80, 69, 65, 84]⟩, Value.string ⟨#[83, 84, 79, 82, 65, 71, 69]⟩, Value.string ⟨#[65, 67, 67, 69, 80, 84]⟩, Value.string ⟨#[70, 65, 73, 76, 69, 68]⟩, Value.string ⟨#[68, 79, 87, 78]⟩, Value.string ⟨#[70, 85, 76, 76]⟩, Value.string ⟨#[67, 79, 82, 82, 85, 80, 84]⟩, Value.string ⟨#[66, 65, 68]⟩, Value.string ⟨#[83, 89, 78, 84, 65, 88]⟩])[c] = .string (nameOf c) := by
  have hc : c = 0 ∨ c = 1 ∨ c = 2 ∨ c = 3 ∨ c = 4 ∨ c = 5 ∨ c = 6 ∨ c = 7 ∨ c = 8 ∨ c = 9 ∨ c = 10 ∨ c = 11 ∨ c = 12 ∨ c = 13 ∨ c = 14 ∨ c = 15 ∨ c = 16 := by omega
  rcases hc with rfl | rfl | rfl | rfl | rfl | rfl | rfl | rfl | rfl | rfl | rfl | rfl | rfl | rfl | rfl | rfl | rfl <;> rfl
theorem ret_string {v : Value} {s : ByteArray} (h : v = .string s) : Ending.returned v = .returned (.string s) := by rw [h]

set_option maxHeartbeats 400000 in
theorem name_out (c : Int) (hc : c < 0 ∨ 16 < c) (w : World) :
    Calls Tryd.prog 23 #[.int .i64 c] w fun e w' => e = .returned (.string (nameOf c)) ∧ Below w.heap.size w w' := by
  have hn := Lib.hid (nameOf_out c hc)
  rcases hc with hc | hc
  all_goals
    go_enter Tryd.func23, Tryd.ntmps23
    go_wp2
    go_ret
    exact ⟨by rw [hn.out]; rfl, Below.refl _ _⟩

set_option maxHeartbeats 400000 in
theorem name_in (c : Nat) (hc : c ≤ 16) (w : World) :
    Calls Tryd.prog 23 #[.int .i64 c] w fun e w' => e = .returned (.string (nameOf c)) ∧ Below w.heap.size w w' := by
  have h0 : ¬ ((c : Int) < 0) := by omega
  have h1 : ¬ ((16 : Int) < c) := by omega
  have h2 : c < 17 := by omega
  go_enter Tryd.func23, Tryd.ntmps23
  go_wp2
  go_ret
  exact ⟨ret_string (names_get c h2), (by repeat (first | exact Below.refl _ _ | assumption | refine bdrewN ?_ _ | refine Below.setCell ?_ (by first | exact Nat.le_refl _ | assumption | omega | (simp <;> omega)) _ | refine Below.alloc ?_ (by first | exact Nat.le_refl _ | assumption | omega | (simp <;> omega)) _))⟩

theorem name_any (c : Int) (w : World) :
    Calls Tryd.prog 23 #[.int .i64 c] w fun e w' => e = .returned (.string (nameOf c)) ∧ Below w.heap.size w w' := by
  by_cases h : c < 0 ∨ 16 < c
  · exact name_out c h w
  · obtain ⟨n, rfl⟩ : ∃ n : Nat, c = n := ⟨c.toNat, by omega⟩
    exact name_in n (by omega) w

end Go.Proofs.YtdidohfdedkfaaaDoor
