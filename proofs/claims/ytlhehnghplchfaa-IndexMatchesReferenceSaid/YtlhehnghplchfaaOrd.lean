/- The order of entries: plain laws. -/
import Derived.Test.YtlhehnghplchfaaCmp
import Derived.Test.YtlhehnghplchfaaIdx3
namespace Go.Proofs.Ytlhehnghplchfaa

theorem cmpI_neg (x y : Int) : cmpI y x = -cmpI x y := by
  unfold cmpI
  split <;> split <;> omega
theorem cmpI_cases (x y : Int) : cmpI x y = -1 ∧ x < y ∨ cmpI x y = 0 ∧ x = y ∨ cmpI x y = 1 ∧ y < x := by
  unfold cmpI
  split
  · exact .inl ⟨rfl, by assumption⟩
  · split
    · exact .inr (.inr ⟨rfl, by assumption⟩)
    · exact .inr (.inl ⟨rfl, by omega⟩)
theorem cmpD_neg : ∀ x y : List Int, cmpD y x = -cmpD x y
  | [], [] => rfl
  | [], _ :: _ => rfl
  | _ :: _, [] => rfl
  | a :: x, b :: y => by
    have ih := cmpD_neg x y
    simp only [cmpD]
    split
    · rw [if_neg (by omega)]
    · split
      · rfl
      · exact ih
theorem cmpD_range : ∀ x y : List Int, cmpD x y = -1 ∨ cmpD x y = 0 ∨ cmpD x y = 1
  | [], [] => .inr (.inl rfl)
  | [], _ :: _ => .inl rfl
  | _ :: _, [] => .inr (.inr rfl)
  | a :: x, b :: y => by
    simp only [cmpD]
    split
    · exact .inl rfl
    · split
      · exact .inr (.inr rfl)
      · exact cmpD_range x y
theorem cmpD_zero : ∀ x y : List Int, cmpD x y = 0 → x = y
  | [], [], _ => rfl
  | [], _ :: _, h => by simp [cmpD] at h
  | _ :: _, [], h => by simp [cmpD] at h
  | a :: x, b :: y, h => by
    simp only [cmpD] at h
    split at h
    · omega
    · split at h
      · omega
      · rw [cmpD_zero x y h, show a = b by omega]
theorem cmpD_self : ∀ x : List Int, cmpD x x = 0
  | [] => rfl
  | a :: x => by
    simp only [cmpD]
    rw [if_neg (by omega), if_neg (by omega)]
    exact cmpD_self x
theorem cmpD_trans : ∀ x y z : List Int, cmpD x y ≤ 0 → cmpD y z ≤ 0 → cmpD x z ≤ 0
  | [], [], [], _, _ => by simp [cmpD]
  | [], _ :: _, [], _, _ => by simp [cmpD]
  | [], _, _ :: _, _, _ => by simp [cmpD]
  | _ :: _, [], _, h, _ => by simp [cmpD] at h
  | _ :: _, _ :: _, [], _, h => by simp [cmpD] at h
  | a :: x, b :: y, c :: z, h, h' => by
    have ih := cmpD_trans x y z
    simp only [cmpD] at h h' ⊢
    split at h
    · split at h'
      · rw [if_pos (by omega)]; omega
      · split at h'
        · omega
        · rw [if_pos (by omega)]; omega
    · split at h
      · omega
      · split at h'
        · rw [if_pos (by omega)]; omega
        · split at h'
          · omega
          · rw [if_neg (by omega), if_neg (by omega)]
            exact ih h h'
theorem cmpE_neg (p q : List Int × Int) : cmpE q p = -cmpE p q := by
  unfold cmpE
  rw [cmpI_neg p.2 q.2]
  have := cmpI_cases p.2 q.2
  by_cases h : cmpI p.2 q.2 = 0
  · rw [h, if_neg (by simp), if_neg (by simp)]
    exact cmpD_neg _ _
  · rw [if_pos (by omega), if_pos h]
theorem cmpE_zero (p q : List Int × Int) : cmpE p q = 0 ↔ p = q := by
  constructor
  · intro h
    unfold cmpE at h
    rcases cmpI_cases p.2 q.2 with ⟨e, _⟩ | ⟨e, h2⟩ | ⟨e, _⟩
    · rw [e] at h; simp at h
    · rw [e, if_neg (by simp)] at h
      exact Prod.ext (cmpD_zero _ _ h) h2
    · rw [e] at h; simp at h
  · rintro rfl
    unfold cmpE
    have : cmpI p.2 p.2 = 0 := by unfold cmpI; simp
    rw [this, if_neg (by simp)]
    exact cmpD_self _
theorem cmpE_trans (p q r : List Int × Int) (h : cmpE p q ≤ 0) (h' : cmpE q r ≤ 0) : cmpE p r ≤ 0 := by
  unfold cmpE at h h' ⊢
  have t := cmpD_trans p.1 q.1 r.1
  have c1 := cmpI_cases p.2 q.2
  have c2 := cmpI_cases q.2 r.2
  have c3 := cmpI_cases p.2 r.2
  split at h <;> split at h' <;> split <;> omega
theorem cmpE_range (p q : List Int × Int) : cmpE p q = -1 ∨ cmpE p q = 0 ∨ cmpE p q = 1 := by
  unfold cmpE
  have := cmpI_cases p.2 q.2
  split
  · omega
  · exact cmpD_range _ _
end Go.Proofs.Ytlhehnghplchfaa
