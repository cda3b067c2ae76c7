/- tolllaw02.awake returns true. -/
import Derived.Test.YtlbijlonpcgccaaFirst
import Derived.Test.YtlbijlonpcgccaaFText
import Derived.Test.YtlbijlonpcgccaaParse
namespace Go.Proofs.Ytlbijlonpcgccaa
open Go.RowKit

theorem codeText_13 : codeText 13 = ⟨#[101, 114, 114, 111, 114, 32, 49, 51]⟩ := by
  unfold codeText
  rw [Lib.decDigits_two (by omega) (by omega)]
  rfl

theorem skew_first : ∀ j : Nat, j < 6 → nameOf j ≠ ⟨#[83, 75, 69, 87]⟩ := by
  intro j hj
  have : j = 0 ∨ j = 1 ∨ j = 2 ∨ j = 3 ∨ j = 4 ∨ j = 5 := by omega
  rcases this with rfl | rfl | rfl | rfl | rfl | rfl <;> decide

theorem sl_two (w : World) (t : TypeId) : Sl (w.alloc (.cells #[.int .i64 8, .int .i64 6] t)) (.slice (some ⟨w.heap.size, 0, none⟩) 2 2) (i64s [8, 6]) := by
  refine ⟨_, 2, rfl, by simp [i64s], fun _ => ⟨w.heap.size, 0, rfl, fun j u hj => ?_⟩⟩
  have hj2 : j = 0 ∨ j = 1 := by
    have := (List.getElem?_eq_some_iff.1 hj).1
    simp [i64s] at this; omega
  rcases hj2 with rfl | rfl <;> (simp [i64s] at hj; subst hj; simp [go_sem])

set_option maxRecDepth 100000 in
set_option maxHeartbeats 1000000 in
theorem awake_any (w : World) : Calls Try.prog 8 #[] w fun e w' => e = .returned (.bool true) ∧ Below w.heap.size w w' := by
  have hm := m_error_inside
  go_enter Try.func8, Try.ntmps8
  go_wp2_with fail
  refine (new_any 13 7 w).mono ?_
  rintro e w1 ⟨rfl, rfl⟩
  go_wp2_with fail
  refine (in_any ⟨#[100, 105, 115, 107]⟩ 13 (some 7) [] _ w rfl).mono ?_
  rintro e w1 ⟨v, rfl, hv, hb⟩
  obtain ⟨b, u, rfl, h0, h1, rfl⟩ := id hv
  go_wp2_with fail
  refine (place_any _ w1 13 (some 7) [_] hv (by simp)).mono ?_
  rintro e w2 ⟨rfl, hb2⟩
  go_wp2_with fail
  refine (parse_found ⟨#[83, 75, 69, 87]⟩ 6 (by omega) rfl skew_first w2).mono ?_
  rintro e w3 ⟨rfl, hb3⟩
  go_wp2_with fail
  have hb13 : Below w1.heap.size w1 w3 := hb2.trans (hb3.mono hb2.size)
  refine (inside_error b _ 13 7 (by omega) w3 (by decide) (Below.cell' hb13 h0) (Below.cell' hb13 h1)).mono ?_
  rintro e w4 ⟨rfl, hb4⟩
  have hb14 : Below w1.heap.size w1 w4 := hb13.trans (hb4.mono hb13.size)
  have ht : (⟨#[100, 105, 115, 107]⟩ ++ ⟨#[58, 32]⟩ ++ codeText 13 : ByteArray) = ⟨#[100, 105, 115, 107, 58, 32, 101, 114, 114, 111, 114, 32, 49, 51]⟩ := by rw [codeText_13]; rfl
  rw [ht]
  go_wp2_with fail
  refine (code_any _ w4 13 (some 7) [_] (hv.below hb14) (by simp)).mono ?_
  rintro e w5 ⟨rfl, hb5⟩
  go_wp2_with fail
  refine (first_any _ [8, 6] _ (sl_two w5 _) (by simp)).mono ?_
  rintro e w6 ⟨rfl, rfl⟩
  have hf1 : firstOf [8, 6] = 6 := rfl
  have hf2 : firstOf [] = 10 := rfl
  rw [hf1]
  go_wp2_with fail
  refine (first_any _ [] _ (Sl.nil _ none 0) (by simp)).mono ?_
  rintro e w6 ⟨rfl, rfl⟩
  rw [hf2]
  go_wp2_with fail
  refine (name_in 6 (by omega) _).mono ?_
  rintro e w7 ⟨rfl, hb7⟩
  have hn6 : nameOf ((6 : Nat) : Int) = ⟨#[83, 75, 69, 87]⟩ := rfl
  rw [hn6]
  go_wp2_with fail
  refine (in_nil ⟨#[120]⟩ _).mono ?_
  rintro e w8 ⟨rfl, rfl⟩
  go_wp2_with fail
  refine (code_nil _).mono ?_
  rintro e w9 ⟨rfl, hb9⟩
  go_wp2_with fail
  go_ret
  refine ⟨rfl, ?_⟩
  exact bstep (bstep (balloc (bstep (bstep hb hb14) hb5) _) hb7) hb9
end Go.Proofs.Ytlbijlonpcgccaa
