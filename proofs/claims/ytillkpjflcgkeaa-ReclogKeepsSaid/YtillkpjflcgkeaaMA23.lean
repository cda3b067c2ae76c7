/- Parts: tollref18.Same (seat slot): it compares two lists of entries. -/
import Derived.Test.YtillkpjflcgkeaaMA22
import Derived.Test.YtillkpjflcgkeaaMA10
import Derived.Test.YtillkpjflcgkeaaMA1
import Derived.Test.YtillkpjflcgkeaaMA2
namespace Go.Proofs.Ytillkpjflcgkeaa
open Go.RowKit

set_option maxRecDepth 100000 in
set_option maxHeartbeats 2000000 in
theorem same_any (va vb : Value) (l m : List (List Int × Int)) (w : World) (hs : Sn w 33 va l.length (l.flatMap entP)) (hok : ∀ p ∈ l, EntOk p) (hs' : Sn w 33 vb m.length (m.flatMap entP)) (hok' : ∀ p ∈ m, EntOk p) (hl : l.length ≤ 1000) (hm : m.length ≤ 1000) :
    Calls Try.prog 21 #[va, vb] w fun e w' => e = .returned (.bool (decide (l = m))) ∧ Below w.heap.size w w' := by
  obtain ⟨A, cap, rfl, hcap, _, _⟩ := id hs
  obtain ⟨A', cap', rfl, hcap', _, _⟩ := id hs'
  have HS := Lib.hid hs
  have HOK := Lib.hid hok
  have HS' := Lib.hid hs'
  have HOK' := Lib.hid hok'
  clear hs hok hs' hok'
  rcases Bool.eq_false_or_eq_true ((l.length : Int) != m.length) with d1 | d1
  · go_enter Try.func21, Try.ntmps21
    go_wp2_with fail
    go_ret
    have hne : l ≠ m := fun e => by subst e; simp at d1
    exact ⟨by simp [hne], Below.refl _ _⟩
  · have hlm : l.length = m.length := by simp at d1; omega
    have HLM := Lib.hid hlm
    clear hlm
    go_enter Try.func21, Try.ntmps21
    go_wp2_with fail
    go_loopw [5] (fun i wr => ∃ k : Nat, k ≤ l.length ∧ i = .int .i64 k ∧ Hid (l.take k = m.take k) ∧ Below w.heap.size w wr) (fun i _ => l.length - (intOf i).toNat)
    case atStart => exact ⟨0, Nat.zero_le _, rfl, Lib.hid rfl, Below.refl _ _⟩
    case round =>
      obtain ⟨k, hk, rfl, heqk, hb⟩ := hrel
      by_cases hlt : k < l.length
      · have hlt' : k < m.length := by rw [← HLM.out]; exact hlt
        obtain ⟨b, off, rfl, hr⟩ := at_elem entP EntOk 33 entP_length (HS.out.below hb) HOK.out k hlt
        obtain ⟨b', off', rfl, hr'⟩ := at_elem entP EntOk 33 entP_length (HS'.out.below hb) HOK'.out k hlt'
        have hr : wr.rangeAt b (off + k * 33) (entP l[k]) := hr
        have hr' : wr.rangeAt b' (off' + k * 33) (entP m[k]) := hr'
        have la := entP_length l[k] (HOK.out _ (List.getElem_mem hlt))
        have lb := entP_length m[k] (HOK'.out _ (List.getElem_mem hlt'))
        have heq := run_eqE (HOK.out l[k] (List.getElem_mem hlt)) (HOK'.out m[k] (List.getElem_mem hlt'))
        have hud := Try.underlying25
        have hua : (Try.prog.info? 25).map (·.size) = some (entP l[k]).length := by rw [la]; kernel_rfl
        have hub : (Try.prog.info? 25).map (·.size) = some (entP m[k]).length := by rw [lb]; kernel_rfl
        have hi0 : (0 : Int) ≤ k := by omega
        have hi1 : (k : Int) < l.length := by omega
        have hi2 : (k : Int) < m.length := by omega
        go_wp2_with fail
        rcases Bool.eq_false_or_eq_true (decide (l[k] = m[k])) with t1 | t1
        all_goals
          rw [t1] at heq
          refine wp_region_quiet_lit (by kernel_rfl) (by kernel_rfl) ?_
          repeat (first
            | (refine qLoad 25 (.tmp 19) rfl rfl rfl hr hud rfl hua ?_; simp only [Act.put, List.setIfInBounds_toArray, List.set_cons_zero, List.set_cons_succ])
            | (refine qLoad 25 (.tmp 23) rfl rfl rfl hr' hud rfl hub ?_; simp only [Act.put, List.setIfInBounds_toArray, List.set_cons_zero, List.set_cons_succ])
            | quiet_step (fail))
          refine wpQuiet_nil ?_
          intro w2 hw2
          obtain ⟨nq, hw3⟩ := hw2
          subst hw3
        · go_wp2_with fail
          refine ⟨⟨k + 1, by omega, by go_num, Lib.hid ?_, bdrewN hb _⟩, by simp [intOf]; omega⟩
          rw [List.take_succ_eq_append_getElem hlt, List.take_succ_eq_append_getElem hlt', heqk.out, of_decide_eq_true t1]
        · go_wp2_with fail
          go_ret
          have hne : l ≠ m := fun e => of_decide_eq_false t1 (by subst e; rfl)
          exact ⟨by simp [hne], bdrewN hb _⟩
      · obtain rfl : k = l.length := by omega
        have hall : l = m := by
          have h := heqk.out
          rw [List.take_length, HLM.out, List.take_length] at h
          exact h
        go_wp2_with fail
        go_ret
        exact ⟨by simp [hall], hb⟩
end Go.Proofs.Ytillkpjflcgkeaa
