/- The reference's Decimal: the decimal digits of an integer. -/
import Derived.Test.YtmaifldiondchaaDoorWords
import Derived.Lib.ItoaNum
import Derived.Lib.ItoaMem
import Derived.Deep.QuietTactic
import Derived.BigQuiet
import Derived.IntWalk
namespace Go.Proofs.YtmaifldiondchaaDoor
open Go.RowKit

def itoaS (n : Int) : ByteArray := ⟨(Lib.itoa n).toArray⟩
theorem nDigits_le (u : Nat) : ∀ k, u < 10 ^ (k + 1) → Lib.nDigits u ≤ k + 1 := by
  intro k
  induction k generalizing u with
  | zero => intro h; unfold Lib.nDigits; rw [dif_pos (by simpa using h)]; omega
  | succ k ih =>
    intro h
    unfold Lib.nDigits
    split
    · omega
    · have := ih (u / 10) (by rw [Nat.div_lt_iff_lt_mul (by omega)]; rw [Nat.pow_succ] at h; omega)
      omega
theorem itoa_len (n : Int) (h0 : -9223372036854775808 ≤ n) (h1 : n ≤ 9223372036854775807) : (Lib.itoa n).length ≤ 20 := by
  unfold Lib.itoa
  split
  · have := nDigits_le n.natAbs 18 (by omega)
    rw [← Lib.decDigits_length] at this
    simp; omega
  · have := nDigits_le n.toNat 18 (by omega)
    rw [← Lib.decDigits_length] at this
    omega
theorem itoaS_size (n : Int) (h0 : -9223372036854775808 ≤ n) (h1 : n ≤ 9223372036854775807) : (itoaS n).size ≤ 20 := by
  have := itoa_len n h0 h1
  simpa [itoaS, ByteArray.size] using this
theorem itoaS_small (n : Nat) (h : n < 10) : (⟨#[48, 49, 50, 51, 52, 53, 54, 55, 56, 57]⟩ : ByteArray).extract n (n + 1) = itoaS n := by
  have : n = 0 ∨ n = 1 ∨ n = 2 ∨ n = 3 ∨ n = 4 ∨ n = 5 ∨ n = 6 ∨ n = 7 ∨ n = 8 ∨ n = 9 := by omega
  unfold itoaS
  rw [Lib.itoa_nonneg, Lib.decDigits_one h]
  rcases this with rfl | rfl | rfl | rfl | rfl | rfl | rfl | rfl | rfl | rfl <;> decide
theorem mk_append (x y : List UInt8) : (ByteArray.mk x.toArray ++ ByteArray.mk y.toArray) = ByteArray.mk (x ++ y).toArray := ByteArray.mk_append_mk x y
theorem itoaS_big (n : Nat) (h : 10 ≤ n) : itoaS (n / 10 : Nat) ++ itoaS (n % 10 : Nat) = itoaS n := by
  unfold itoaS
  rw [Lib.itoa_nonneg, Lib.itoa_nonneg, Lib.itoa_nonneg, mk_append]
  conv => rhs; rw [Lib.decDigits, dif_neg (by omega)]
  rw [Lib.decDigits_one (show n % 10 < 10 by omega)]

set_option maxHeartbeats 400000 in
theorem dec_digit (n : Int) (w : World) (h0 : 0 ≤ n) (h1 : n < 10) :
    Calls Tryd.prog 31 #[.int .i64 n] w fun e w' => e = .returned (.string (itoaS n)) ∧ ∃ d, w' = w.drewN d := by
  obtain ⟨k, rfl⟩ : ∃ k : Nat, n = k := ⟨n.toNat, by omega⟩
  have hk : k < 10 := by omega
  have d1 : ¬ ((k : Int) < -9) := by omega
  have d2 : ¬ ((k : Int) < 0) := by omega
  go_enter Tryd.func31, Tryd.ntmps31
  go_wp2_with fail
  go_ret
  have he := itoaS_small k hk
  exact ⟨by rw [← he]; rfl, 0, rfl⟩

set_option maxHeartbeats 400000 in
theorem dec_nat (k : Nat) : ∀ (n : Int) (w : World), 0 ≤ n → n ≤ 9223372036854775807 → n.toNat ≤ k →
    Calls Tryd.prog 31 #[.int .i64 n] w fun e w' => e = .returned (.string (itoaS n)) ∧ ∃ d, w' = w.drewN d := by
  induction k with
  | zero => exact fun n w h0 _ hk => dec_digit n w h0 (by omega)
  | succ k ih =>
    intro n w h0 h1 hk
    by_cases hd : n < 10
    · exact dec_digit n w h0 hd
    · obtain ⟨m, rfl⟩ : ∃ m : Nat, n = m := ⟨n.toNat, by omega⟩
      have d1 : ¬ ((m : Int) < -9) := by omega
      have d2 : ¬ ((m : Int) < 0) := by omega
      have IH := Lib.hid ih
      clear ih
      go_enter Tryd.func31, Tryd.ntmps31
      go_wp2_with fail
      have b1 := itoaS_size ((m : Int) / 10) (by omega) (by omega)
      have hcall := fun w => IH.out ((m : Int) / 10) w (by omega) (by omega) (by omega)
      have HC := Lib.hid hcall
      clear hcall
      have r0 : (0 : Int) ≤ (m : Int) % 10 := by omega
      have r1 : (m : Int) % 10 + 1 ≤ 10 := by omega
      have e1 : IntKind.i64.wrap ((m : Int) % 10 + 1) = (m : Int) % 10 + 1 := IntWalk.i64_in _ (by omega)
      have e2 : ((m : Int) % 10).toNat = m % 10 := by omega
      have e3 : ((m : Int) % 10 + 1).toNat = m % 10 + 1 := by omega
      go_quiet ((go_at_call 31; exact Calls.quiet_of (HC.out _)))
      have hs := itoaS_small (m % 10) (by omega)
      have hg := itoaS_big m (by omega)
      have HS := Lib.hid hs
      have HG := Lib.hid hg
      clear hs hg e1 e2 e3 b1 r0 r1
      go_wp2_with fail
      go_ret
      exact ⟨by rw [← HG.out, ← HS.out]; rfl, nq, rfl⟩

theorem dec_nonneg (n : Int) (w : World) (h0 : 0 ≤ n) (h1 : n ≤ 9223372036854775807) :
    Calls Tryd.prog 31 #[.int .i64 n] w fun e w' => e = .returned (.string (itoaS n)) ∧ ∃ d, w' = w.drewN d := dec_nat n.toNat n w h0 h1 (Nat.le_refl _)

theorem itoaS_neg (n : Nat) (h : 1 ≤ n) : (⟨#[45]⟩ : ByteArray) ++ itoaS n = itoaS (-(n : Int)) := by
  unfold itoaS
  rw [Lib.itoa_nonneg, Lib.itoa_neg n h]
  exact mk_append [45] _
theorem itoaS_negbig (n : Nat) (h : 10 ≤ n) : itoaS (-((n / 10 : Nat) : Int)) ++ itoaS (n % 10 : Nat) = itoaS (-(n : Int)) := by
  unfold itoaS
  rw [Lib.itoa_nonneg, Lib.itoa_neg n (by omega), Lib.itoa_neg (n / 10) (by omega), mk_append]
  conv => rhs; rw [Lib.decDigits, dif_neg (by omega)]
  rw [Lib.decDigits_one (show n % 10 < 10 by omega)]
  rfl

set_option maxHeartbeats 400000 in
theorem dec_neg_digit (n : Nat) (w : World) (h0 : 1 ≤ n) (h1 : n ≤ 9) :
    Calls Tryd.prog 31 #[.int .i64 (-(n : Int))] w fun e w' => e = .returned (.string (itoaS (-(n : Int)))) ∧ ∃ d, w' = w.drewN d := by
  have d1 : ¬ (-(n : Int) < -9) := by omega
  have d2 : (-(n : Int) < 0) := by omega
  have hn := Lib.hid (itoaS_neg n h0)
  have hsz := itoaS_size n (by omega) (by omega)
  go_enter Tryd.func31, Tryd.ntmps31
  go_wp2_with fail
  refine (dec_nonneg n w (by omega) (by omega)).mono ?_
  rintro e w1 ⟨rfl, d, rfl⟩
  go_wp2_with fail
  go_ret
  exact ⟨by rw [← hn.out]; rfl, d, rfl⟩

set_option maxHeartbeats 400000 in
theorem dec_neg (k : Nat) : ∀ (n : Nat) (w : World), 1 ≤ n → (n : Int) ≤ 9223372036854775808 → n ≤ k →
    Calls Tryd.prog 31 #[.int .i64 (-(n : Int))] w fun e w' => e = .returned (.string (itoaS (-(n : Int)))) ∧ ∃ d, w' = w.drewN d := by
  induction k with
  | zero => exact fun n w h0 _ hk => by omega
  | succ k ih =>
    intro n w h0 h1 hk
    by_cases hd : n ≤ 9
    · exact dec_neg_digit n w h0 hd
    · have d1 : (-(n : Int) < -9) := by omega
      have IH := Lib.hid ih
      have hg := Lib.hid (itoaS_negbig n (by omega))
      have hsz := itoaS_size (-((n / 10 : Nat) : Int)) (by omega) (by omega)
      have hsz2 := itoaS_size ((n % 10 : Nat) : Int) (by omega) (by omega)
      have q1 : (-(n : Int)).tdiv 10 = -((n / 10 : Nat) : Int) := by rw [Int.neg_tdiv]; rfl
      have q2 : (-(n : Int)).tmod 10 = -((n % 10 : Nat) : Int) := by rw [Int.neg_tmod]; rfl
      clear ih
      have hc1 := IH.out (n / 10) w (by omega) (by omega) (by omega)
      rw [show (((n / 10 : Nat)) : Int) = (n : Int) / 10 from by omega] at hc1 hsz q1
      rw [show (((n % 10 : Nat)) : Int) = (n : Int) % 10 from by omega] at hsz2 q2
      have HC := Lib.hid hc1
      clear hc1
      go_enter Tryd.func31, Tryd.ntmps31
      go_wp2_with fail
      refine HC.out.mono ?_
      rintro e w1 ⟨rfl, d, rfl⟩
      go_wp2_with fail
      refine (dec_nonneg ((n : Int) % 10) _ (by omega) (by omega)).mono ?_
      rintro e w1 ⟨rfl, d', rfl⟩
      go_wp2_with fail
      go_ret
      refine ⟨?_, d + d', rfl⟩
      rw [← hg.out]
      rfl

/-- Decimal of any int. -/
theorem dec_any (n : Int) (w : World) (h0 : -9223372036854775808 ≤ n) (h1 : n ≤ 9223372036854775807) :
    Calls Tryd.prog 31 #[.int .i64 n] w fun e w' => e = .returned (.string (itoaS n)) ∧ ∃ d, w' = w.drewN d := by
  by_cases h : 0 ≤ n
  · exact dec_nonneg n w h h1
  · obtain ⟨m, rfl⟩ : ∃ m : Nat, n = -(m : Int) := ⟨n.natAbs, by omega⟩
    exact dec_neg m m w (by omega) (by omega) (Nat.le_refl _)
end Go.Proofs.YtmaifldiondchaaDoor
