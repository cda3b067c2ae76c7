/- script.word, script.kinds, script.rightCuts, script.Right. -/
import Derived.Test.YtmaifldiondchaaDoorSMap
import Derived.Test.YtmaifldiondchaaDoorArms
import Derived.Test.YtmaifldiondchaaDoorMem
import Derived.Deep.Cut
namespace Go.Proofs.YtmaifldiondchaaDoor
open Go.RowKit
set_option linter.unusedSimpArgs false

theorem bel1 (w : World) (o : Obj) : Below w.heap.size w (w.alloc o) := (Below.refl _ w).alloc (Nat.le_refl _) o
def intC (c : List Int) : List Value := c.map (Value.int .i64)
theorem intC_length (c : List Int) : (intC c).length = c.length := by simp [intC]
theorem at_int {w : World} {A : Option Addr} {cap : Nat} {c : List Int} (h : Sn w 1 (.slice A c.length cap) c.length (intC c)) (k : Nat) (hk : k < c.length) :
    ∃ b off, A = some ⟨b, off, none⟩ ∧ w.cell? ⟨b, off + k, none⟩ = some (.int .i64 c[k]) := by
  obtain ⟨A', cap', hv, _, _, hx⟩ := h
  injection hv with hA _ _
  subst hA
  obtain ⟨b, off, rfl, hc⟩ := hx (by omega)
  exact ⟨b, off, rfl, hc k _ (by simp [intC, hk])⟩

set_option maxRecDepth 100000 in
theorem word_any (k : Int) (w : World) :
    Calls Tryd.prog 29 #[.int .i64 k] w fun e w' => e = .returned (.string (SB (wordL k))) ∧ w' = w := by
  by_cases h1 : k = 1
  · subst h1
    go_enter Tryd.func29, Tryd.ntmps29
    go_wp2_with fail
    go_ret
    exact ⟨rfl, rfl⟩
  by_cases h2 : k = 2
  · subst h2
    go_enter Tryd.func29, Tryd.ntmps29
    go_wp2_with fail
    go_ret
    exact ⟨rfl, rfl⟩
  by_cases h3 : k = 3
  · subst h3
    go_enter Tryd.func29, Tryd.ntmps29
    go_wp2_with fail
    go_ret
    exact ⟨rfl, rfl⟩
  by_cases h4 : k = 4
  · subst h4
    go_enter Tryd.func29, Tryd.ntmps29
    go_wp2_with fail
    go_ret
    exact ⟨rfl, rfl⟩
  by_cases h5 : k = 5
  · subst h5
    go_enter Tryd.func29, Tryd.ntmps29
    go_wp2_with fail
    go_ret
    exact ⟨rfl, rfl⟩
  by_cases h6 : k = 6
  · subst h6
    go_enter Tryd.func29, Tryd.ntmps29
    go_wp2_with fail
    go_ret
    exact ⟨rfl, rfl⟩
  have e : wordL k = [] := by unfold wordL; simp [h1, h2, h3, h4, h5, h6]
  rw [e]
  have t1 : (k == 1) = false := beq_eq_false_iff_ne.2 h1
  have t2 : (k == 2) = false := beq_eq_false_iff_ne.2 h2
  have t3 : (k == 3) = false := beq_eq_false_iff_ne.2 h3
  have t4 : (k == 4) = false := beq_eq_false_iff_ne.2 h4
  have t5 : (k == 5) = false := beq_eq_false_iff_ne.2 h5
  have t6 : (k == 6) = false := beq_eq_false_iff_ne.2 h6
  clear h1 h2 h3 h4 h5 h6 e
  go_enter Tryd.func29, Tryd.ntmps29
  go_wp2_with fail
  go_ret
  exact ⟨rfl, rfl⟩

set_option maxRecDepth 100000 in
theorem rightCuts_any (c : List Int) (A : Option Addr) (cap : Nat) (w : World) (hs : Sn w 1 (.slice A c.length cap) c.length (intC c)) (hm : c.length ≤ 9223372036854775807) :
    Calls Tryd.prog 38 #[.slice A c.length cap] w fun e w' => e = .returned (.bool (cutsB c && decide (c.length ≤ 20))) ∧ w' = w := by
  have HS := Lib.hid hs
  clear hs
  go_enter Tryd.func38, Tryd.ntmps38
  go_wp2_with fail
  go_loopw [7] (fun i wr => ∃ k : Nat, k ≤ c.length ∧ i = .int .i64 k ∧ Hid (cutsB (c.take k) = true) ∧ wr = w) (fun i _ => c.length - (intOf i).toNat)
  case atStart => exact ⟨0, Nat.zero_le _, rfl, Lib.hid rfl, rfl⟩
  case round =>
    obtain ⟨k, hk, rfl, HP, hw⟩ := hrel
    rw [hw]
    clear hw
    rcases Nat.lt_or_ge k c.length with hlt | hge
    · obtain ⟨b, off, eA, c0⟩ := at_int HS.out k hlt
      subst eA
      obtain ⟨x, hx⟩ : ∃ x, x = c[k] := ⟨_, rfl⟩
      rw [← hx] at c0
      have HX := Lib.hid hx
      clear hx
      have hi0 : (0 : Int) ≤ k := by omega
      have hi1 : (k : Int) < c.length := by omega
      rcases Bool.eq_false_or_eq_true (decide (x < 0)) with t1 | t1
      · have HF : Hid (cutsB c = false) := Lib.hid (by
          rw [Bool.eq_false_iff]
          intro h
          have h := List.all_eq_true.1 h c[k] (List.getElem_mem hlt)
          rw [← HX.out] at h
          simp only [Bool.and_eq_true, decide_eq_true_eq] at h t1
          omega)
        go_wp2_with fail
        go_ret
        exact ⟨by rw [HF.out]; rfl, rfl⟩
      · rcases Bool.eq_false_or_eq_true (decide ((64 : Int) < x)) with t2 | t2
        · have HF : Hid (cutsB c = false) := Lib.hid (by
            rw [Bool.eq_false_iff]
            intro h
            have h := List.all_eq_true.1 h c[k] (List.getElem_mem hlt)
            rw [← HX.out] at h
            simp only [Bool.and_eq_true, decide_eq_true_eq] at h t2
            omega)
          go_wp2_with fail
          go_ret
          exact ⟨by rw [HF.out]; rfl, rfl⟩
        · have HN : Hid (cutsB (c.take (k + 1)) = true) := Lib.hid (by
            have h := HP.out
            unfold cutsB at h ⊢
            rw [List.take_succ_eq_append_getElem hlt, List.all_append, h, ← HX.out]
            have h1 := of_decide_eq_false t1
            have h2 := of_decide_eq_false t2
            simp; omega)
          go_wp2_with fail
          exact ⟨⟨k + 1, by omega, by go_num, HN, by trivial⟩, by simp [intOf]; omega⟩
    · obtain rfl : k = c.length := by omega
      have HP2 := HP.out
      rw [List.take_length] at HP2
      have HP3 := Lib.hid HP2
      clear HP2
      go_wp2_with fail
      go_ret
      refine ⟨?_, rfl⟩
      rw [HP3.out]
      simp
      omega

end Go.Proofs.YtmaifldiondchaaDoor
