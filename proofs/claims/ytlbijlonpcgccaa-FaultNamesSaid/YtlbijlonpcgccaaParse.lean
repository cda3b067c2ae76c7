/- fault.Parse: the first code with a name. -/
import Derived.Test.YtlbijlonpcgccaaNames
import Derived.ScopeJumps
import Derived.WalkMore
namespace Go.Proofs.Ytlbijlonpcgccaa
open Go.RowKit

set_option maxHeartbeats 400000 in
theorem parse_found (s : ByteArray) (m : Nat) (hm : m ≤ 16) (h : nameOf m = s) (hn : ∀ j : Nat, j < m → nameOf j ≠ s) (w : World) :
    Calls Try.prog 15 #[.string s] w fun e w' => e = .returned (.tuple #[.int .i64 m, .bool true]) ∧ Below w.heap.size w w' := by
  have H := Lib.hid h
  have Hn := Lib.hid hn
  clear h hn
  go_enter Try.func15, Try.ntmps15
  go_wp2_with fail
  refine wp_scope_jumps 0 (fun a' w' => Below w.heap.size w w' ∧ ∃ (u5 u6 u7 u8 u9 u10 u11 u12 : Value), a' = { tmps := #[.string s, undef, .int .i64 0, .bool false, .int .i64 m, u5, u6, u7, u8, u9, u10, u11, u12, undef], defers := [] }) (fun _ _ => 0) rfl ?_ ?_
  · go_wp2_with fail
    go_loopw [4] (fun i wr => ∃ k : Nat, k ≤ m ∧ i = .int .i64 k ∧ Below w.heap.size w wr) (fun i _ => 17 - (intOf i).toNat)
    case atStart => exact ⟨0, Nat.zero_le _, rfl, Below.refl _ _⟩
    case round =>
      obtain ⟨k, hk, rfl, hb⟩ := hrel
      have hs := hb.size
      have h16 : decide ((k : Int) ≤ 16) = true := by simp; omega
      rcases Nat.lt_or_ge k m with hlt | hge
      · have ht := str_ff (Hn.out k hlt)
        go_wp2_with fail
        refine (name_any k wr).mono ?_
        rintro e w1 ⟨rfl, hb1⟩
        go_wp2_with fail
        exact ⟨⟨k + 1, by omega, by go_num, hb.trans (hb1.mono hs)⟩, by simp [intOf]; omega⟩
      · obtain rfl : k = m := by omega
        have ht := str_tt H.out
        go_wp2_with fail
        refine (name_any k wr).mono ?_
        rintro e w1 ⟨rfl, hb1⟩
        go_wp2_with fail
        go_step3
        exact ⟨rfl, hb.trans (hb1.mono hs), _, _, _, _, _, _, _, _, rfl⟩
  · rintro a' w' ⟨hb, u5, u6, u7, u8, u9, u10, u11, u12, rfl⟩
    go_wp2_with fail
    simp only [Exit.jump]
    go_ret2
    exact ⟨rfl, hb⟩

set_option maxHeartbeats 400000 in
theorem parse_none (s : ByteArray) (hn : ∀ j : Nat, j ≤ 16 → nameOf j ≠ s) (w : World) :
    Calls Try.prog 15 #[.string s] w fun e w' => e = .returned (.tuple #[.int .i64 0, .bool false]) ∧ Below w.heap.size w w' := by
  have Hn := Lib.hid hn
  clear hn
  go_enter Try.func15, Try.ntmps15
  go_wp2_with fail
  go_step3
  go_wp2_with fail
  go_loopw [4] (fun i wr => ∃ k : Nat, k ≤ 17 ∧ i = .int .i64 k ∧ Below w.heap.size w wr) (fun i _ => 17 - (intOf i).toNat)
  case atStart => exact ⟨0, Nat.zero_le _, rfl, Below.refl _ _⟩
  case round =>
    obtain ⟨k, hk, rfl, hb⟩ := hrel
    have hs := hb.size
    rcases Nat.lt_or_ge k 17 with hlt | hge
    · have h16 : decide ((k : Int) ≤ 16) = true := by simp; omega
      have ht := str_ff (Hn.out k (by omega))
      go_wp2_with fail
      refine (name_any k wr).mono ?_
      rintro e w1 ⟨rfl, hb1⟩
      go_wp2_with fail
      exact ⟨⟨k + 1, by omega, by go_num, hb.trans (hb1.mono hs)⟩, by simp [intOf]; omega⟩
    · have h16 : decide ((k : Int) ≤ 16) = false := by simp; omega
      go_wp2_with fail
      simp only [Exit.noGoto]
      go_ret2
      exact ⟨rfl, hb⟩
end Go.Proofs.Ytlbijlonpcgccaa
