/- Texts of errors of small codes; names of codes. -/
import Derived.Test.YtlbijlonpcgccaaPlace
import Derived.Test.YtlbijlonpcgccaaShelf
import Derived.Deep.RegionHeld3
import Derived.RegionTactic
namespace Go.Proofs.Ytlbijlonpcgccaa
open Go.RowKit

def codeText (c : Nat) : ByteArray := ⟨#[101, 114, 114, 111, 114, 32]⟩ ++ ⟨(Lib.decDigits c).toArray⟩
theorem dec_small {c : Nat} (h : c < 100) : (Lib.decDigits c).length ≤ 2 := by
  by_cases h1 : c < 10
  · rw [Lib.decDigits_one h1]; simp
  · rw [Lib.decDigits_two h1 h]; simp
theorem codeText_size {c : Nat} (h : c < 100) : (codeText c).size ≤ 8 := by
  have := dec_small h
  simp [codeText, ByteArray.size]; omega

set_option maxHeartbeats 400000 in
theorem code_error (c : Nat) (hc : c < 100) (w : World) :
    Calls Try.prog 47 #[.int .i64 c] w fun e w' => e = .returned (.string (codeText c)) ∧ w = w' := by
  have hd := dec_small hc
  go_enter Try.func47, Try.ntmps47
  go_wp2_with (go_at_call 48; refine (Try.strconv_Itoa_small c hc _).mono ?_; rintro e w' ⟨rfl, rfl⟩)
  go_ret
  exact ⟨rfl, rfl⟩

set_option maxHeartbeats 400000 in
theorem fault_error (c : Nat) (a : Int) (hc : c < 100) (w : World) :
    Calls Try.prog 62 #[.agg #[.int .i64 c, .int .i64 a]] w fun e w' => e = .returned (.string (codeText c)) ∧ Below w.heap.size w w' := by
  go_enter Try.func62, Try.ntmps62
  go_wp2_with (go_at_call 47; refine (code_error c hc _).mono ?_; rintro e w' ⟨rfl, rfl⟩)
  go_ret
  exact ⟨rfl, (by repeat (first | exact Below.refl _ _ | assumption | refine bdrewN ?_ _ | refine Below.setCell ?_ (by first | exact Nat.le_refl _ | assumption | omega | (simp <;> omega)) _ | refine Below.alloc ?_ (by first | exact Nat.le_refl _ | assumption | omega | (simp <;> omega)) _))⟩

set_option maxHeartbeats 400000 in
theorem inside_error (b : Nat) (p : ByteArray) (c : Nat) (a : Int) (hc : c < 100) (w : World) (hp : p.size ≤ 100) (h0 : w.cell? ⟨b, 0, none⟩ = some (.string p)) (h1 : w.cell? ⟨b, 1, none⟩ = some (.iface 54 (.agg #[.int .i64 c, .int .i64 a]))) :
    Calls Try.prog 64 #[.pointer (some ⟨b, 0, none⟩)] w fun e w' => e = .returned (.string (p ++ ⟨#[58, 32]⟩ ++ codeText c)) ∧ Below w.heap.size w w' := by
  have hm := m_error_fault
  have hs := codeText_size hc
  have hlb := cell_lt h0
  simp only at hlb
  go_enter Try.func64, Try.ntmps64
  go_wp2
  go_region_with (go_at_call 62; refine (fault_error c a hc _).mono ?_; rintro e w' ⟨rfl, hb⟩; have hx0 := (hb.cell (p := ⟨b, 0, none⟩) hlb).trans h0; have hx1 := (hb.cell (p := ⟨b, 1, none⟩) hlb).trans h1)
  all_goals (go_wp2; go_ret; exact ⟨rfl, (Below.refl w.heap.size w).drew.trans hb⟩)
end Go.Proofs.Ytlbijlonpcgccaa
