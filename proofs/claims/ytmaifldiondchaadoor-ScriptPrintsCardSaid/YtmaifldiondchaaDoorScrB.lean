/- script.Right, tolllaw24.few. -/
import Derived.Test.YtmaifldiondchaaDoorScrA
namespace Go.Proofs.YtmaifldiondchaaDoor
open Go.RowKit
set_option linter.unusedSimpArgs false

theorem len_ne {α : Type} {l : List α} (h : l.isEmpty = false) : ((l.length : Int) != 0) = true := by
  rw [bne_iff_ne]
  intro e
  have : l = [] := List.length_eq_zero_iff.1 (by omega)
  rw [this] at h
  cases h
theorem len_eq {α : Type} {l : List α} (h : l.isEmpty = true) : ((l.length : Int) != 0) = false := by
  rw [List.isEmpty_iff] at h
  subst h
  rfl

set_option maxRecDepth 100000 in
set_option maxHeartbeats 4000000 in
theorem right_any (k n : Int) (d : Bs) (c : List Int) (A B : Option Addr) (ca cb : Nat) (w : World) (hc : Sn w 1 (.slice B c.length cb) c.length (intC c)) (hcm : c.length ≤ 9223372036854775807) (hdm : d.length ≤ 9223372036854775807) :
    Calls Tryd.prog 18 #[.agg #[.int .i64 k, .int .i64 n, .slice A d.length ca, .slice B c.length cb]] w fun e w' => e = .returned (.bool (rightB ⟨k, n, d, c⟩)) ∧ Below w.heap.size w w' := by
  have HC := Lib.hid hc
  clear hc
  by_cases h1 : k = 1
  · subst h1
    rcases Bool.eq_false_or_eq_true d.isEmpty with d0 | d0
    · have d1 := len_eq d0
      rcases Bool.eq_false_or_eq_true c.isEmpty with c0 | c0
      · have c1 := len_eq c0
        rcases Bool.eq_false_or_eq_true (decide ((0 : Int) ≤ n)) with t | t
        · have HV : Hid (decide (n ≤ 1099511627776) = rightB ⟨1, n, d, c⟩) := Lib.hid (by unfold rightB; (simp [d0, c0, t]) <;> omega)
          go_enter Tryd.func18, Tryd.ntmps18
          go_wp2_with (go_at_call 38; refine (rightCuts_any c B cb _ (HC.out.below (bel1 _ _)) hcm).mono ?_; rintro e w' ⟨rfl, rfl⟩)
          go_ret
          exact ⟨congrArg (fun b => Ending.returned (Value.bool b)) HV.out, bel1 _ _⟩
        · have HV : Hid (false = rightB ⟨1, n, d, c⟩) := Lib.hid (by unfold rightB; (simp [d0, c0, t]) <;> omega)
          go_enter Tryd.func18, Tryd.ntmps18
          go_wp2_with (go_at_call 38; refine (rightCuts_any c B cb _ (HC.out.below (bel1 _ _)) hcm).mono ?_; rintro e w' ⟨rfl, rfl⟩)
          go_ret
          exact ⟨congrArg (fun b => Ending.returned (Value.bool b)) HV.out, bel1 _ _⟩
      · have c1 := len_ne c0
        have HV : Hid (false = rightB ⟨1, n, d, c⟩) := Lib.hid (by unfold rightB; (simp [d0, c0]) <;> omega)
        go_enter Tryd.func18, Tryd.ntmps18
        go_wp2_with (go_at_call 38; refine (rightCuts_any c B cb _ (HC.out.below (bel1 _ _)) hcm).mono ?_; rintro e w' ⟨rfl, rfl⟩)
        go_ret
        exact ⟨congrArg (fun b => Ending.returned (Value.bool b)) HV.out, bel1 _ _⟩
    · have d1 := len_ne d0
      have HV : Hid (false = rightB ⟨1, n, d, c⟩) := Lib.hid (by unfold rightB; (simp [d0]) <;> omega)
      go_enter Tryd.func18, Tryd.ntmps18
      go_wp2_with (go_at_call 38; refine (rightCuts_any c B cb _ (HC.out.below (bel1 _ _)) hcm).mono ?_; rintro e w' ⟨rfl, rfl⟩)
      go_ret
      exact ⟨congrArg (fun b => Ending.returned (Value.bool b)) HV.out, bel1 _ _⟩
  by_cases h2 : k = 2
  · subst h2
    rcases Bool.eq_false_or_eq_true d.isEmpty with d0 | d0
    · have d1 := len_eq d0
      rcases Bool.eq_false_or_eq_true c.isEmpty with c0 | c0
      · have c1 := len_eq c0
        have HV : Hid ((n == 0) = rightB ⟨2, n, d, c⟩) := Lib.hid (by unfold rightB; (simp [d0, c0]) <;> omega)
        go_enter Tryd.func18, Tryd.ntmps18
        go_wp2_with (go_at_call 38; refine (rightCuts_any c B cb _ (HC.out.below (bel1 _ _)) hcm).mono ?_; rintro e w' ⟨rfl, rfl⟩)
        go_ret
        exact ⟨congrArg (fun b => Ending.returned (Value.bool b)) HV.out, bel1 _ _⟩
      · have c1 := len_ne c0
        have HV : Hid (false = rightB ⟨2, n, d, c⟩) := Lib.hid (by unfold rightB; (simp [d0, c0]) <;> omega)
        go_enter Tryd.func18, Tryd.ntmps18
        go_wp2_with (go_at_call 38; refine (rightCuts_any c B cb _ (HC.out.below (bel1 _ _)) hcm).mono ?_; rintro e w' ⟨rfl, rfl⟩)
        go_ret
        exact ⟨congrArg (fun b => Ending.returned (Value.bool b)) HV.out, bel1 _ _⟩
    · have d1 := len_ne d0
      have HV : Hid (false = rightB ⟨2, n, d, c⟩) := Lib.hid (by unfold rightB; (simp [d0]) <;> omega)
      go_enter Tryd.func18, Tryd.ntmps18
      go_wp2_with (go_at_call 38; refine (rightCuts_any c B cb _ (HC.out.below (bel1 _ _)) hcm).mono ?_; rintro e w' ⟨rfl, rfl⟩)
      go_ret
      exact ⟨congrArg (fun b => Ending.returned (Value.bool b)) HV.out, bel1 _ _⟩
  by_cases h3 : k = 3
  · subst h3
    rcases Bool.eq_false_or_eq_true c.isEmpty with c0 | c0
    · have c1 := len_eq c0
      rcases Bool.eq_false_or_eq_true (n == 0) with t | t
      · have HV : Hid (decide ((d.length : Int) ≤ 131072) = rightB ⟨3, n, d, c⟩) := Lib.hid (by unfold rightB; (simp [c0, t]) <;> omega)
        go_enter Tryd.func18, Tryd.ntmps18
        go_wp2_with (go_at_call 38; refine (rightCuts_any c B cb _ (HC.out.below (bel1 _ _)) hcm).mono ?_; rintro e w' ⟨rfl, rfl⟩)
        go_ret
        exact ⟨congrArg (fun b => Ending.returned (Value.bool b)) HV.out, bel1 _ _⟩
      · have HV : Hid (false = rightB ⟨3, n, d, c⟩) := Lib.hid (by unfold rightB; (simp [c0, t]) <;> omega)
        go_enter Tryd.func18, Tryd.ntmps18
        go_wp2_with (go_at_call 38; refine (rightCuts_any c B cb _ (HC.out.below (bel1 _ _)) hcm).mono ?_; rintro e w' ⟨rfl, rfl⟩)
        go_ret
        exact ⟨congrArg (fun b => Ending.returned (Value.bool b)) HV.out, bel1 _ _⟩
    · have c1 := len_ne c0
      have HV : Hid (false = rightB ⟨3, n, d, c⟩) := Lib.hid (by unfold rightB; (simp [c0]) <;> omega)
      go_enter Tryd.func18, Tryd.ntmps18
      go_wp2_with (go_at_call 38; refine (rightCuts_any c B cb _ (HC.out.below (bel1 _ _)) hcm).mono ?_; rintro e w' ⟨rfl, rfl⟩)
      go_ret
      exact ⟨congrArg (fun b => Ending.returned (Value.bool b)) HV.out, bel1 _ _⟩
  by_cases h4 : k = 4
  · subst h4
    rcases Bool.eq_false_or_eq_true d.isEmpty with d0 | d0
    · have d1 := len_eq d0
      rcases Bool.eq_false_or_eq_true c.isEmpty with c0 | c0
      · have c1 := len_eq c0
        have HV : Hid ((n == 0) = rightB ⟨4, n, d, c⟩) := Lib.hid (by unfold rightB; (simp [d0, c0]) <;> omega)
        go_enter Tryd.func18, Tryd.ntmps18
        go_wp2_with (go_at_call 38; refine (rightCuts_any c B cb _ (HC.out.below (bel1 _ _)) hcm).mono ?_; rintro e w' ⟨rfl, rfl⟩)
        go_ret
        exact ⟨congrArg (fun b => Ending.returned (Value.bool b)) HV.out, bel1 _ _⟩
      · have c1 := len_ne c0
        have HV : Hid (false = rightB ⟨4, n, d, c⟩) := Lib.hid (by unfold rightB; (simp [d0, c0]) <;> omega)
        go_enter Tryd.func18, Tryd.ntmps18
        go_wp2_with (go_at_call 38; refine (rightCuts_any c B cb _ (HC.out.below (bel1 _ _)) hcm).mono ?_; rintro e w' ⟨rfl, rfl⟩)
        go_ret
        exact ⟨congrArg (fun b => Ending.returned (Value.bool b)) HV.out, bel1 _ _⟩
    · have d1 := len_ne d0
      have HV : Hid (false = rightB ⟨4, n, d, c⟩) := Lib.hid (by unfold rightB; (simp [d0]) <;> omega)
      go_enter Tryd.func18, Tryd.ntmps18
      go_wp2_with (go_at_call 38; refine (rightCuts_any c B cb _ (HC.out.below (bel1 _ _)) hcm).mono ?_; rintro e w' ⟨rfl, rfl⟩)
      go_ret
      exact ⟨congrArg (fun b => Ending.returned (Value.bool b)) HV.out, bel1 _ _⟩
  by_cases h5 : k = 5
  · subst h5
    rcases Bool.eq_false_or_eq_true d.isEmpty with d0 | d0
    · have d1 := len_eq d0
      rcases Bool.eq_false_or_eq_true c.isEmpty with c0 | c0
      · have c1 := len_eq c0
        rcases Bool.eq_false_or_eq_true (decide ((1 : Int) ≤ n)) with t | t
        · have HV : Hid (decide (n ≤ 1048576) = rightB ⟨5, n, d, c⟩) := Lib.hid (by unfold rightB; (simp [d0, c0, t]) <;> omega)
          go_enter Tryd.func18, Tryd.ntmps18
          go_wp2_with (go_at_call 38; refine (rightCuts_any c B cb _ (HC.out.below (bel1 _ _)) hcm).mono ?_; rintro e w' ⟨rfl, rfl⟩)
          go_ret
          exact ⟨congrArg (fun b => Ending.returned (Value.bool b)) HV.out, bel1 _ _⟩
        · have HV : Hid (false = rightB ⟨5, n, d, c⟩) := Lib.hid (by unfold rightB; (simp [d0, c0, t]) <;> omega)
          go_enter Tryd.func18, Tryd.ntmps18
          go_wp2_with (go_at_call 38; refine (rightCuts_any c B cb _ (HC.out.below (bel1 _ _)) hcm).mono ?_; rintro e w' ⟨rfl, rfl⟩)
          go_ret
          exact ⟨congrArg (fun b => Ending.returned (Value.bool b)) HV.out, bel1 _ _⟩
      · have c1 := len_ne c0
        have HV : Hid (false = rightB ⟨5, n, d, c⟩) := Lib.hid (by unfold rightB; (simp [d0, c0]) <;> omega)
        go_enter Tryd.func18, Tryd.ntmps18
        go_wp2_with (go_at_call 38; refine (rightCuts_any c B cb _ (HC.out.below (bel1 _ _)) hcm).mono ?_; rintro e w' ⟨rfl, rfl⟩)
        go_ret
        exact ⟨congrArg (fun b => Ending.returned (Value.bool b)) HV.out, bel1 _ _⟩
    · have d1 := len_ne d0
      have HV : Hid (false = rightB ⟨5, n, d, c⟩) := Lib.hid (by unfold rightB; (simp [d0]) <;> omega)
      go_enter Tryd.func18, Tryd.ntmps18
      go_wp2_with (go_at_call 38; refine (rightCuts_any c B cb _ (HC.out.below (bel1 _ _)) hcm).mono ?_; rintro e w' ⟨rfl, rfl⟩)
      go_ret
      exact ⟨congrArg (fun b => Ending.returned (Value.bool b)) HV.out, bel1 _ _⟩
  by_cases h6 : k = 6
  · subst h6
    rcases Bool.eq_false_or_eq_true d.isEmpty with d0 | d0
    · have d1 := len_eq d0
      rcases Bool.eq_false_or_eq_true (decide ((0 : Int) ≤ n)) with t | t
      · rcases Bool.eq_false_or_eq_true (decide (n ≤ 1048576)) with t2 | t2
        · have HV : Hid ((cutsB c && decide (c.length ≤ 20)) = rightB ⟨6, n, d, c⟩) := Lib.hid (by unfold rightB; (simp [d0, t, t2]) <;> omega)
          go_enter Tryd.func18, Tryd.ntmps18
          go_wp2_with (go_at_call 38; refine (rightCuts_any c B cb _ (HC.out.below (bel1 _ _)) hcm).mono ?_; rintro e w' ⟨rfl, rfl⟩)
          go_ret
          exact ⟨congrArg (fun b => Ending.returned (Value.bool b)) HV.out, bel1 _ _⟩
        · have HV : Hid (false = rightB ⟨6, n, d, c⟩) := Lib.hid (by unfold rightB; (simp [d0, t, t2]) <;> omega)
          go_enter Tryd.func18, Tryd.ntmps18
          go_wp2_with (go_at_call 38; refine (rightCuts_any c B cb _ (HC.out.below (bel1 _ _)) hcm).mono ?_; rintro e w' ⟨rfl, rfl⟩)
          go_ret
          exact ⟨congrArg (fun b => Ending.returned (Value.bool b)) HV.out, bel1 _ _⟩
      · have HV : Hid (false = rightB ⟨6, n, d, c⟩) := Lib.hid (by unfold rightB; (simp [d0, t]) <;> omega)
        go_enter Tryd.func18, Tryd.ntmps18
        go_wp2_with (go_at_call 38; refine (rightCuts_any c B cb _ (HC.out.below (bel1 _ _)) hcm).mono ?_; rintro e w' ⟨rfl, rfl⟩)
        go_ret
        exact ⟨congrArg (fun b => Ending.returned (Value.bool b)) HV.out, bel1 _ _⟩
    · have d1 := len_ne d0
      have HV : Hid (false = rightB ⟨6, n, d, c⟩) := Lib.hid (by unfold rightB; (simp [d0]) <;> omega)
      go_enter Tryd.func18, Tryd.ntmps18
      go_wp2_with (go_at_call 38; refine (rightCuts_any c B cb _ (HC.out.below (bel1 _ _)) hcm).mono ?_; rintro e w' ⟨rfl, rfl⟩)
      go_ret
      exact ⟨congrArg (fun b => Ending.returned (Value.bool b)) HV.out, bel1 _ _⟩
  have t1 : (k == 1) = false := beq_eq_false_iff_ne.2 h1
  have t2 : (k == 2) = false := beq_eq_false_iff_ne.2 h2
  have t3 : (k == 3) = false := beq_eq_false_iff_ne.2 h3
  have t4 : (k == 4) = false := beq_eq_false_iff_ne.2 h4
  have t5 : (k == 5) = false := beq_eq_false_iff_ne.2 h5
  have t6 : (k == 6) = false := beq_eq_false_iff_ne.2 h6
  have u3 : (k != 3) = true := bne_iff_ne.2 h3
  have u6 : (k != 6) = true := bne_iff_ne.2 h6
  rcases Bool.eq_false_or_eq_true d.isEmpty with d0 | d0
  · have d1 := len_eq d0
    rcases Bool.eq_false_or_eq_true c.isEmpty with c0 | c0
    · have c1 := len_eq c0
      have HV : Hid (false = rightB ⟨k, n, d, c⟩) := Lib.hid (by unfold rightB; (simp [h1, h2, h3, h4, h5, h6, d0, c0]) <;> omega)
      go_enter Tryd.func18, Tryd.ntmps18
      go_wp2_with (go_at_call 38; refine (rightCuts_any c B cb _ (HC.out.below (bel1 _ _)) hcm).mono ?_; rintro e w' ⟨rfl, rfl⟩)
      go_ret
      exact ⟨congrArg (fun b => Ending.returned (Value.bool b)) HV.out, bel1 _ _⟩
    · have c1 := len_ne c0
      have HV : Hid (false = rightB ⟨k, n, d, c⟩) := Lib.hid (by unfold rightB; (simp [h1, h2, h3, h4, h5, h6, d0, c0]) <;> omega)
      go_enter Tryd.func18, Tryd.ntmps18
      go_wp2_with (go_at_call 38; refine (rightCuts_any c B cb _ (HC.out.below (bel1 _ _)) hcm).mono ?_; rintro e w' ⟨rfl, rfl⟩)
      go_ret
      exact ⟨congrArg (fun b => Ending.returned (Value.bool b)) HV.out, bel1 _ _⟩
  · have d1 := len_ne d0
    have HV : Hid (false = rightB ⟨k, n, d, c⟩) := Lib.hid (by unfold rightB; (simp [h1, h2, h3, h4, h5, h6, d0]) <;> omega)
    go_enter Tryd.func18, Tryd.ntmps18
    go_wp2_with (go_at_call 38; refine (rightCuts_any c B cb _ (HC.out.below (bel1 _ _)) hcm).mono ?_; rintro e w' ⟨rfl, rfl⟩)
    go_ret
    exact ⟨congrArg (fun b => Ending.returned (Value.bool b)) HV.out, bel1 _ _⟩
end Go.Proofs.YtmaifldiondchaaDoor
