/- Whole numbers as float64: conversion, sums and the way back are exact below 2^53. No program is named here. -/
import Derived.Laws.Cover2
import Derived.Laws.ComplexArith
namespace Go.Proofs.YtdidohfdedkfaaaDoor

theorem cut_exact (way : Ieee.Toward) (n d : Nat) (neg : Bool) : way.cut neg (n * 2 ^ d) d = n := by
  unfold Ieee.Toward.cut
  simp only [Nat.one_shiftLeft]
  by_cases hn : n = 0
  · subst hn; cases way <;> simp
  · have hmin : min d ((n * 2 ^ d).log2 + 2) = d := by
      have h1 : 2 ^ d ≤ n * 2 ^ d := Nat.le_mul_of_pos_left _ (by omega)
      have h3 : 0 < n * 2 ^ d := Nat.mul_pos (by omega) (Nat.two_pow_pos d)
      have h2 : d ≤ (n * 2 ^ d).log2 := (Nat.le_log2 (by omega)).2 h1
      omega
    have hp := Nat.two_pow_pos d
    rw [hmin, Nat.mul_div_cancel _ hp, Nat.mul_mod_left]
    cases way <;> simp
theorem cut_zero (way : Ieee.Toward) (n : Nat) (neg : Bool) : way.cut neg n 0 = n := by
  have := cut_exact way n 0 neg
  simpa using this

theorem log2_mul_pow (n q : Nat) (h : 0 < n) : (n * 2 ^ q).log2 = n.log2 + q := by
  have h1 : 2 ^ n.log2 ≤ n := (Nat.le_log2 (by omega)).1 (Nat.le_refl _)
  have h2 : n < 2 ^ (n.log2 + 1) := Nat.lt_log2_self
  have h3 : 0 < n * 2 ^ q := Nat.mul_pos h (Nat.two_pow_pos q)
  have h4 : n.log2 + q ≤ (n * 2 ^ q).log2 := (Nat.le_log2 (by omega)).2 (by rw [Nat.pow_add]; exact Nat.mul_le_mul_right _ h1)
  have h5 : (n * 2 ^ q).log2 < n.log2 + q + 1 := (Nat.log2_lt (by omega)).2 (by
    rw [show n.log2 + q + 1 = (n.log2 + 1) + q from by omega, Nat.pow_add]
    exact Nat.mul_lt_mul_of_pos_right h2 (Nat.two_pow_pos q))
  omega

/-- The word of a whole number below 2^53, written out. -/
def flw (n : Nat) : Nat := if n = 0 then 0 else (n.log2 + 1022) * 2 ^ 52 + n * 2 ^ (52 - n.log2)

theorem top_bounds (n : Nat) (h0 : 0 < n) (h : n < 2 ^ 53) : n.log2 ≤ 52 ∧ 2 ^ 52 ≤ n * 2 ^ (52 - n.log2) ∧ n * 2 ^ (52 - n.log2) < 2 ^ 53 := by
  have hl : n.log2 < 53 := (Nat.log2_lt (by omega)).2 h
  have h1 : 2 ^ n.log2 ≤ n := (Nat.le_log2 (by omega)).1 (Nat.le_refl _)
  have h2 : n < 2 ^ (n.log2 + 1) := Nat.lt_log2_self
  refine ⟨by omega, ?_, ?_⟩
  · calc 2 ^ 52 = 2 ^ n.log2 * 2 ^ (52 - n.log2) := by rw [← Nat.pow_add]; congr 1; omega
      _ ≤ _ := Nat.mul_le_mul_right _ h1
  · calc n * 2 ^ (52 - n.log2) < 2 ^ (n.log2 + 1) * 2 ^ (52 - n.log2) := Nat.mul_lt_mul_of_pos_right h2 (Nat.two_pow_pos _)
      _ = 2 ^ 53 := by rw [← Nat.pow_add]; congr 1; omega

theorem nearest_val (n q : Nat) (h : n < 2 ^ 53) : Ieee.double.nearest false (n * 2 ^ q) (-(q : Int)) = flw n := by
  by_cases hn : n = 0
  · subst hn; simp [Ieee.Format.nearest, flw, Ieee.Format.word]
  · obtain ⟨hl, hk1, hk2⟩ := top_bounds n (by omega) h
    have hm : n * 2 ^ q ≠ 0 := by have := Nat.mul_pos (show 0 < n by omega) (Nat.two_pow_pos q); omega
    have hlast : max (-(q : Int) + ((n * 2 ^ q).log2 : Int) - (52 : Nat)) (-1074) = (n.log2 : Int) - 52 := by
      rw [log2_mul_pow n q (by omega)]; omega
    have hlp : Ieee.double.leastPlace = -1074 := by decide
    have hkept : Ieee.Toward.cut .even false ((n * 2 ^ q) <<< (-(q : Int) - ((n.log2 : Int) - 52)).toNat) (((n.log2 : Int) - 52) - -(q : Int)).toNat = n * 2 ^ (52 - n.log2) := by
      by_cases hq : q ≤ 52 - n.log2
      · rw [show (((n.log2 : Int) - 52) - -(q : Int)).toNat = 0 from by omega, cut_zero, Nat.shiftLeft_eq, Nat.mul_assoc, ← Nat.pow_add]
        congr 2; omega
      · rw [show (-(q : Int) - ((n.log2 : Int) - 52)).toNat = 0 from by omega, Nat.shiftLeft_zero,
          show n * 2 ^ q = (n * 2 ^ (52 - n.log2)) * 2 ^ ((((n.log2 : Int) - 52) - -(q : Int)).toNat) from by
            rw [Nat.mul_assoc, ← Nat.pow_add]; congr 2; omega]
        exact cut_exact _ _ _ _
    unfold Ieee.Format.nearest
    rw [if_neg hm]
    simp only [hlp, show Ieee.double.fractionBits = 52 from rfl, hlast, hkept]
    unfold flw
    rw [if_neg hn]
    have hb : Ieee.double.binade = 2 ^ 52 := rfl
    have hi : Ieee.double.infRung = 2047 * 2 ^ 52 := rfl
    rw [hb, hi, show ((n.log2 : Int) - 52 - -1074).toNat = n.log2 + 1022 from by omega]
    unfold Ieee.Format.word
    simp only [Bool.false_eq_true, if_false]
    generalize n * 2 ^ (52 - n.log2) = K at *
    generalize n.log2 = L at *
    clear hkept hlast h hm hn
    omega

theorem read_flw (n : Nat) (h : n < 2 ^ 53) : ∃ q : Nat, Ieee.double.read (flw n) = .number false (n * 2 ^ q) (-(q : Int)) := by
  by_cases hn : n = 0
  · subst hn
    have h0 : Ieee.double.read 0 = .number false 0 (-1074) := by decide
    have key : ∀ q : Nat, (q : Int) = 1074 → Ieee.double.read (flw 0) = .number false (0 * 2 ^ q) (-(q : Int)) := by
      intro q hq
      rw [Nat.zero_mul, hq]
      exact h0
    obtain ⟨q, hq⟩ : ∃ q : Nat, (q : Int) = 1074 := ⟨1074, rfl⟩
    exact ⟨q, key q hq⟩
  · obtain ⟨hl, hk1, hk2⟩ := top_bounds n (by omega) h
    refine ⟨52 - n.log2, ?_⟩
    unfold flw
    rw [if_neg hn]
    have hsw : Ieee.double.signWeight = 2 ^ 63 := rfl
    have hb : Ieee.double.binade = 2 ^ 52 := rfl
    have hi : Ieee.double.infRung = 2047 * 2 ^ 52 := rfl
    have hlp : Ieee.double.leastPlace = -1074 := by decide
    unfold Ieee.Format.read
    simp only [hsw, hb, hi, hlp]
    generalize hK : n * 2 ^ (52 - n.log2) = K at *
    generalize n.log2 = L at *
    have e1 : ((L + 1022) * 2 ^ 52 + K) / 2 ^ 63 = 0 := by omega
    have e2 : ((L + 1022) * 2 ^ 52 + K) % 2 ^ 63 = (L + 1022) * 2 ^ 52 + K := by omega
    have e3 : ((L + 1022) * 2 ^ 52 + K) % 2 ^ 52 = K - 2 ^ 52 := by omega
    have e4 : ((L + 1022) * 2 ^ 52 + K) / 2 ^ 52 = L + 1023 := by omega
    have m1 : 2 ^ 52 + (K - 2 ^ 52) = K := by omega
    have m2 : (-1074 + ((L + 1023 - 1 : Nat) : Int)) = -((52 - L : Nat) : Int) := by omega
    rw [e1, e2, if_neg (by omega), if_pos (by omega), e3, e4, m1, m2]
    rfl

theorem sum_val (a b p q : Nat) : ∃ r : Nat, Ieee.Datum.sum (.number false (a * 2 ^ p) (-(p : Int))) (.number false (b * 2 ^ q) (-(q : Int))) = some (.number false ((a + b) * 2 ^ r) (-(r : Int))) := by
  refine ⟨max p q, ?_⟩
  simp only [Ieee.Datum.sum]
  have hbase : min (-(p : Int)) (-(q : Int)) = -((max p q : Nat) : Int) := by omega
  rw [hbase]
  have e1 : Ieee.signed false (a * 2 ^ p) (-(p : Int) - -((max p q : Nat) : Int)).toNat = ((a * 2 ^ (max p q) : Nat) : Int) := by
    unfold Ieee.signed
    simp only [Bool.false_eq_true, if_false, Nat.shiftLeft_eq, Nat.mul_assoc, ← Nat.pow_add]
    congr 3; omega
  have e2 : Ieee.signed false (b * 2 ^ q) (-(q : Int) - -((max p q : Nat) : Int)).toNat = ((b * 2 ^ (max p q) : Nat) : Int) := by
    unfold Ieee.signed
    simp only [Bool.false_eq_true, if_false, Nat.shiftLeft_eq, Nat.mul_assoc, ← Nat.pow_add]
    congr 3; omega
  rw [e1, e2, ← Int.natCast_add, ← Nat.add_mul]
  congr 2
  split
  · rfl
  · simp only [decide_eq_false_iff_not]; omega

/-- What the sum of two whole numbers is, as long as it is below 2^53. -/
theorem add_flw (a b : Nat) (h : a + b < 2 ^ 53) : Ieee.double.add (flw a) (flw b) = some (flw (a + b)) := by
  obtain ⟨p, hp⟩ := read_flw a (by omega)
  obtain ⟨q, hq⟩ := read_flw b (by omega)
  obtain ⟨r, hr⟩ := sum_val a b p q
  unfold Ieee.Format.add
  rw [hp, hq, hr]
  simp only [Option.map_some, Ieee.Format.write]
  rw [nearest_val _ _ h]

theorem order_flw (a b : Nat) (ha : a < 2 ^ 53) (hb : b < 2 ^ 53) : Ieee.double.order (flw a) (flw b) = some (compare a b) := by
  obtain ⟨p, hp⟩ := read_flw a ha
  obtain ⟨q, hq⟩ := read_flw b hb
  unfold Ieee.Format.order
  rw [hp, hq]
  simp only [Ieee.Datum.order]
  have hbase : min (-(p : Int)) (-(q : Int)) = -((max p q : Nat) : Int) := by omega
  rw [hbase]
  have e1 : Ieee.signed false (a * 2 ^ p) (-(p : Int) - -((max p q : Nat) : Int)).toNat = ((a * 2 ^ (max p q) : Nat) : Int) := by
    unfold Ieee.signed
    simp only [Bool.false_eq_true, if_false, Nat.shiftLeft_eq, Nat.mul_assoc, ← Nat.pow_add]
    congr 3; omega
  have e2 : Ieee.signed false (b * 2 ^ q) (-(q : Int) - -((max p q : Nat) : Int)).toNat = ((b * 2 ^ (max p q) : Nat) : Int) := by
    unfold Ieee.signed
    simp only [Bool.false_eq_true, if_false, Nat.shiftLeft_eq, Nat.mul_assoc, ← Nat.pow_add]
    congr 3; omega
  rw [e1, e2]
  generalize hP : 2 ^ max p q = P
  have hP0 : 0 < P := by rw [← hP]; exact Nat.two_pow_pos _
  congr 1
  rcases Nat.lt_trichotomy a b with hab | hab | hab
  · have : a * P < b * P := Nat.mul_lt_mul_of_pos_right hab hP0
    rw [Nat.compare_eq_lt.2 hab, Int.compare_eq_lt.2 (by omega)]
  · subst hab
    rw [Nat.compare_eq_eq.2 rfl, Int.compare_eq_eq.2 rfl]
  · have : b * P < a * P := Nat.mul_lt_mul_of_pos_right hab hP0
    rw [Nat.compare_eq_gt.2 hab, Int.compare_eq_gt.2 (by omega)]

theorem toInt_flw (n : Nat) (h : n < 2 ^ 53) : (Ieee.double.read (flw n)).toInt .zero = some (n : Int) := by
  obtain ⟨q, hq⟩ := read_flw n h
  rw [hq]
  simp only [Ieee.Datum.toInt, Ieee.Datum.integral]
  have e1 : (-(q : Int)).toNat = 0 := by omega
  have e2 : (- -(q : Int)).toNat = q := by omega
  rw [e1, e2, Nat.shiftLeft_zero, cut_exact]
  simp [Ieee.signed]

theorem nearest_int (n : Nat) (h : n < 2 ^ 53) : FloatKind.f64.nearest (n : Int) = flw n := by
  have := nearest_val n 0 h
  simp only [FloatKind.nearest, FloatKind.encode, FloatKind.format, Ieee.Format.write, Int.natAbs_natCast]
  rw [show decide ((n : Int) < 0) = false from by simp]
  simpa using this
end Go.Proofs.YtdidohfdedkfaaaDoor
