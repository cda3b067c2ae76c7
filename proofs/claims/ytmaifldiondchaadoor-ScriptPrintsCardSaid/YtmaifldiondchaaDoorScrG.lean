/- The reference's Right. -/
import Derived.Test.YtmaifldiondchaaDoorScrD
import Derived.Test.YtmaifldiondchaaDoorScr2
namespace Go.Proofs.YtmaifldiondchaaDoor
open Go.RowKit
set_option linter.unusedSimpArgs false

theorem len_gt {α : Type} {l : List α} (h : l.isEmpty = false) : decide ((0 : Int) < l.length) = true ∧ decide (0 < l.length) = true := by
  cases l with
  | nil => cases h
  | cons x l => constructor <;> (simp <;> omega)
theorem len_ngt {α : Type} {l : List α} (h : l.isEmpty = true) : decide ((0 : Int) < l.length) = false ∧ decide (0 < l.length) = false := by
  rw [List.isEmpty_iff] at h
  subst h
  exact ⟨rfl, rfl⟩

set_option maxRecDepth 100000 in
set_option maxHeartbeats 8000000 in
theorem refRight_any (k n : Int) (d : Bs) (c : List Int) (A B : Option Addr) (ca cb : Nat) (w : World) (hc : Sn w 1 (.slice B c.length cb) c.length (intC c)) (hcm : c.length ≤ 9223372036854775807) (hdm : d.length ≤ 9223372036854775807) :
    Calls Tryd.prog 14 #[.agg #[.int .i64 k, .int .i64 n, .slice A d.length ca, .slice B c.length cb]] w fun e w' => e = .returned (.bool (rightB ⟨k, n, d, c⟩)) ∧ Below w.heap.size w w' := by
  have HC := Lib.hid hc
  clear hc
  have HBAD : Hid (cutsB c = false → rightB ⟨k, n, d, c⟩ = false) := Lib.hid (fun h => by
    rw [Bool.eq_false_iff]
    intro hr
    have := (right_p hr).cut
    rw [(cutsB_iff c).2 this] at h
    cases h)
  go_enter Tryd.func14, Tryd.ntmps14
  go_wp2_with fail
  obtain ⟨W, hW⟩ : ∃ W, W = w.alloc (.cells #[.int .i64 k, .int .i64 n, .slice A d.length ca, .slice B c.length cb] 26) := ⟨_, rfl⟩
  rw [← hW]
  have hK : Blk W w.heap.size 26 #[.int .i64 k, .int .i64 n, .slice A d.length ca, .slice B c.length cb] := by rw [hW]; exact Blk.new _ _ _
  have HB : Hid (Below w.heap.size w W) := Lib.hid (by rw [hW]; exact bel1 _ _)
  have b0 := hK.cell 0
  have b1 := hK.cell 1
  have b2 := hK.cell 2
  have b3 := hK.cell 3
  simp only [List.getElem?_toArray, List.getElem?_cons_zero, List.getElem?_cons_succ] at b0 b1 b2 b3
  have HCW := Lib.hid (HC.out.below HB.out)
  clear hW hK
  go_loopw [3] (fun i wr => ∃ j : Nat, j ≤ c.length ∧ i = .int .i64 j ∧ Hid (cutsB (c.take j) = true) ∧ wr = W) (fun i _ => c.length - (intOf i).toNat)
  case atStart => exact ⟨0, Nat.zero_le _, rfl, Lib.hid rfl, rfl⟩
  case round =>
    obtain ⟨j, hj, rfl, HP, hw⟩ := hrel
    rw [hw]
    clear hw
    rcases Nat.lt_or_ge j c.length with hlt | hge
    · obtain ⟨b, off, eA, c0⟩ := at_int HCW.out j hlt
      subst eA
      obtain ⟨x, hx⟩ : ∃ x, x = c[j] := ⟨_, rfl⟩
      rw [← hx] at c0
      have HX := Lib.hid hx
      clear hx
      have hi0 : (0 : Int) ≤ j := by omega
      have hi1 : (j : Int) < c.length := by omega
      have HF : Hid (¬ (0 ≤ x ∧ x ≤ 64) → rightB ⟨k, n, d, c⟩ = false) := Lib.hid (fun hn => HBAD.out (by
        rw [Bool.eq_false_iff]
        intro h
        have h := (cutsB_iff c).1 h c[j] (List.getElem_mem hlt)
        rw [← HX.out] at h
        exact hn h))
      rcases Bool.eq_false_or_eq_true (decide (x < 0)) with t1 | t1
      · have HV := Lib.hid (HF.out (by have := of_decide_eq_true t1; omega))
        go_wp2_with fail
        go_ret
        exact ⟨by rw [HV.out]; rfl, HB.out⟩
      · rcases Bool.eq_false_or_eq_true (decide ((64 : Int) < x)) with t2 | t2
        · have HV := Lib.hid (HF.out (by have := of_decide_eq_true t2; omega))
          go_wp2_with fail
          go_ret
          exact ⟨by rw [HV.out]; rfl, HB.out⟩
        · have HN : Hid (cutsB (c.take (j + 1)) = true) := Lib.hid (by
            have h := HP.out
            unfold cutsB at h ⊢
            rw [List.take_succ_eq_append_getElem hlt, List.all_append, h, ← HX.out]
            have h1 := of_decide_eq_false t1
            have h2 := of_decide_eq_false t2
            simp; omega)
          go_wp2_with fail
          exact ⟨⟨j + 1, by omega, by go_num, HN, by trivial⟩, by simp [intOf]; omega⟩
    · obtain rfl : j = c.length := by omega
      have hcb := HP.out
      rw [List.take_length] at hcb
      have HCB := Lib.hid hcb
      clear hcb HP
      by_cases h1 : k = 1
      · subst h1
        rcases Bool.eq_false_or_eq_true d.isEmpty with d0 | d0
        · obtain ⟨d1, d2⟩ := len_ngt d0
          rcases Bool.eq_false_or_eq_true c.isEmpty with c0 | c0
          · obtain ⟨c1, c2⟩ := len_ngt c0
            have c3 : decide ((20 : Int) < c.length) = false := by rw [List.isEmpty_iff] at c0; rw [c0]; rfl
            have d3 : decide ((131072 : Int) < d.length) = false := by rw [List.isEmpty_iff] at d0; rw [d0]; rfl
            rcases Bool.eq_false_or_eq_true (decide (n < 0)) with t | t
            · have tt := of_decide_eq_true t
              have HT := Lib.hid tt
              clear tt
              have HV : Hid (false = rightB ⟨1, n, d, c⟩) := Lib.hid (by have tt := HT.out; rw [eq_comm, Bool.eq_false_iff]; intro h; have := (right_p h).n.1.1; simp at this; omega)
              go_wp2_with fail
              go_ret
              exact ⟨congrArg (fun b => Ending.returned (Value.bool b)) HV.out, HB.out⟩
            · have HT := Lib.hid (of_decide_eq_false t)
              have HV : Hid (decide (n ≤ 1099511627776) = rightB ⟨1, n, d, c⟩) := Lib.hid (by have hcb := HCB.out; have tt := HT.out; unfold rightB; (simp [hcb, d0, c0]) <;> omega)
              go_wp2_with fail
              go_ret
              exact ⟨congrArg (fun b => Ending.returned (Value.bool b)) HV.out, HB.out⟩
          · obtain ⟨c1, c2⟩ := len_gt c0
            have HV : Hid (false = rightB ⟨1, n, d, c⟩) := Lib.hid (by have hcb := HCB.out; unfold rightB; (simp [hcb, d0, c0]) <;> omega)
            go_wp2_with fail
            go_ret
            exact ⟨congrArg (fun b => Ending.returned (Value.bool b)) HV.out, HB.out⟩
        · obtain ⟨d1, d2⟩ := len_gt d0
          have HV : Hid (false = rightB ⟨1, n, d, c⟩) := Lib.hid (by have hcb := HCB.out; unfold rightB; (simp [hcb, d0]) <;> omega)
          go_wp2_with fail
          go_ret
          exact ⟨congrArg (fun b => Ending.returned (Value.bool b)) HV.out, HB.out⟩
      by_cases h2 : k = 2
      · subst h2
        rcases Bool.eq_false_or_eq_true d.isEmpty with d0 | d0
        · obtain ⟨d1, d2⟩ := len_ngt d0
          rcases Bool.eq_false_or_eq_true c.isEmpty with c0 | c0
          · obtain ⟨c1, c2⟩ := len_ngt c0
            have c3 : decide ((20 : Int) < c.length) = false := by rw [List.isEmpty_iff] at c0; rw [c0]; rfl
            have d3 : decide ((131072 : Int) < d.length) = false := by rw [List.isEmpty_iff] at d0; rw [d0]; rfl
            rcases Bool.eq_false_or_eq_true (decide (n < 0)) with t | t
            · have tt := of_decide_eq_true t
              have HT := Lib.hid tt
              clear tt
              have HV : Hid (false = rightB ⟨2, n, d, c⟩) := Lib.hid (by have tt := HT.out; rw [eq_comm, Bool.eq_false_iff]; intro h; have := (right_p h).n.1.1; simp at this; omega)
              go_wp2_with fail
              go_ret
              exact ⟨congrArg (fun b => Ending.returned (Value.bool b)) HV.out, HB.out⟩
            · have HT := Lib.hid (of_decide_eq_false t)
              have HV : Hid ((n == 0) = rightB ⟨2, n, d, c⟩) := Lib.hid (by have hcb := HCB.out; have tt := HT.out; unfold rightB; (simp [hcb, d0, c0]) <;> omega)
              go_wp2_with fail
              go_ret
              exact ⟨congrArg (fun b => Ending.returned (Value.bool b)) HV.out, HB.out⟩
          · obtain ⟨c1, c2⟩ := len_gt c0
            have HV : Hid (false = rightB ⟨2, n, d, c⟩) := Lib.hid (by have hcb := HCB.out; unfold rightB; (simp [hcb, d0, c0]) <;> omega)
            go_wp2_with fail
            go_ret
            exact ⟨congrArg (fun b => Ending.returned (Value.bool b)) HV.out, HB.out⟩
        · obtain ⟨d1, d2⟩ := len_gt d0
          have HV : Hid (false = rightB ⟨2, n, d, c⟩) := Lib.hid (by have hcb := HCB.out; unfold rightB; (simp [hcb, d0]) <;> omega)
          go_wp2_with fail
          go_ret
          exact ⟨congrArg (fun b => Ending.returned (Value.bool b)) HV.out, HB.out⟩
      by_cases h3 : k = 3
      · subst h3
        rcases Bool.eq_false_or_eq_true c.isEmpty with c0 | c0
        · obtain ⟨c1, c2⟩ := len_ngt c0
          have c3 : decide ((20 : Int) < c.length) = false := by rw [List.isEmpty_iff] at c0; rw [c0]; rfl
          rcases Bool.eq_false_or_eq_true (decide ((131072 : Int) < d.length)) with d3 | d3
          · have d4 : decide (d.length ≤ 131072) = false := by have := of_decide_eq_true d3; simp; omega
            have HV : Hid (false = rightB ⟨3, n, d, c⟩) := Lib.hid (by have hcb := HCB.out; unfold rightB; (simp [hcb, c0, d4]) <;> omega)
            go_wp2_with fail
            go_ret
            exact ⟨congrArg (fun b => Ending.returned (Value.bool b)) HV.out, HB.out⟩
          · have d4 : decide (d.length ≤ 131072) = true := by have := of_decide_eq_false d3; simp; omega
            rcases Bool.eq_false_or_eq_true (decide (n < 0)) with t | t
            · have tt := of_decide_eq_true t
              have HT := Lib.hid tt
              clear tt
              have HV : Hid (false = rightB ⟨3, n, d, c⟩) := Lib.hid (by have tt := HT.out; rw [eq_comm, Bool.eq_false_iff]; intro h; have := (right_p h).n.1.1; simp at this; omega)
              go_wp2_with fail
              go_ret
              exact ⟨congrArg (fun b => Ending.returned (Value.bool b)) HV.out, HB.out⟩
            · have HT := Lib.hid (of_decide_eq_false t)
              have HV : Hid ((n == 0) = rightB ⟨3, n, d, c⟩) := Lib.hid (by have hcb := HCB.out; have tt := HT.out; unfold rightB; (simp [hcb, c0, d4]) <;> omega)
              go_wp2_with fail
              go_ret
              exact ⟨congrArg (fun b => Ending.returned (Value.bool b)) HV.out, HB.out⟩
        · obtain ⟨c1, c2⟩ := len_gt c0
          have HV : Hid (false = rightB ⟨3, n, d, c⟩) := Lib.hid (by have hcb := HCB.out; unfold rightB; (simp [hcb, c0]) <;> omega)
          go_wp2_with fail
          go_ret
          exact ⟨congrArg (fun b => Ending.returned (Value.bool b)) HV.out, HB.out⟩
      by_cases h4 : k = 4
      · subst h4
        rcases Bool.eq_false_or_eq_true d.isEmpty with d0 | d0
        · obtain ⟨d1, d2⟩ := len_ngt d0
          rcases Bool.eq_false_or_eq_true c.isEmpty with c0 | c0
          · obtain ⟨c1, c2⟩ := len_ngt c0
            have c3 : decide ((20 : Int) < c.length) = false := by rw [List.isEmpty_iff] at c0; rw [c0]; rfl
            have d3 : decide ((131072 : Int) < d.length) = false := by rw [List.isEmpty_iff] at d0; rw [d0]; rfl
            rcases Bool.eq_false_or_eq_true (decide (n < 0)) with t | t
            · have tt := of_decide_eq_true t
              have HT := Lib.hid tt
              clear tt
              have HV : Hid (false = rightB ⟨4, n, d, c⟩) := Lib.hid (by have tt := HT.out; rw [eq_comm, Bool.eq_false_iff]; intro h; have := (right_p h).n.1.1; simp at this; omega)
              go_wp2_with fail
              go_ret
              exact ⟨congrArg (fun b => Ending.returned (Value.bool b)) HV.out, HB.out⟩
            · have HT := Lib.hid (of_decide_eq_false t)
              have HV : Hid ((n == 0) = rightB ⟨4, n, d, c⟩) := Lib.hid (by have hcb := HCB.out; have tt := HT.out; unfold rightB; (simp [hcb, d0, c0]) <;> omega)
              go_wp2_with fail
              go_ret
              exact ⟨congrArg (fun b => Ending.returned (Value.bool b)) HV.out, HB.out⟩
          · obtain ⟨c1, c2⟩ := len_gt c0
            have HV : Hid (false = rightB ⟨4, n, d, c⟩) := Lib.hid (by have hcb := HCB.out; unfold rightB; (simp [hcb, d0, c0]) <;> omega)
            go_wp2_with fail
            go_ret
            exact ⟨congrArg (fun b => Ending.returned (Value.bool b)) HV.out, HB.out⟩
        · obtain ⟨d1, d2⟩ := len_gt d0
          have HV : Hid (false = rightB ⟨4, n, d, c⟩) := Lib.hid (by have hcb := HCB.out; unfold rightB; (simp [hcb, d0]) <;> omega)
          go_wp2_with fail
          go_ret
          exact ⟨congrArg (fun b => Ending.returned (Value.bool b)) HV.out, HB.out⟩
      by_cases h5 : k = 5
      · subst h5
        rcases Bool.eq_false_or_eq_true d.isEmpty with d0 | d0
        · obtain ⟨d1, d2⟩ := len_ngt d0
          rcases Bool.eq_false_or_eq_true c.isEmpty with c0 | c0
          · obtain ⟨c1, c2⟩ := len_ngt c0
            have c3 : decide ((20 : Int) < c.length) = false := by rw [List.isEmpty_iff] at c0; rw [c0]; rfl
            have d3 : decide ((131072 : Int) < d.length) = false := by rw [List.isEmpty_iff] at d0; rw [d0]; rfl
            rcases Bool.eq_false_or_eq_true (decide (n < 0)) with t | t
            · have tt := of_decide_eq_true t
              have HT := Lib.hid tt
              clear tt
              have HV : Hid (false = rightB ⟨5, n, d, c⟩) := Lib.hid (by have tt := HT.out; rw [eq_comm, Bool.eq_false_iff]; intro h; have := (right_p h).n.1.1; simp at this; omega)
              go_wp2_with fail
              go_ret
              exact ⟨congrArg (fun b => Ending.returned (Value.bool b)) HV.out, HB.out⟩
            · have HT := Lib.hid (of_decide_eq_false t)
              rcases Bool.eq_false_or_eq_true (decide ((1 : Int) ≤ n)) with t2 | t2
              · skip
                have HV : Hid (decide (n ≤ 1048576) = rightB ⟨5, n, d, c⟩) := Lib.hid (by have hcb := HCB.out; have tt := HT.out; unfold rightB; (simp [hcb, d0, c0, t2]) <;> omega)
                go_wp2_with fail
                go_ret
                exact ⟨congrArg (fun b => Ending.returned (Value.bool b)) HV.out, HB.out⟩
              · skip
                have HV : Hid (false = rightB ⟨5, n, d, c⟩) := Lib.hid (by have hcb := HCB.out; have tt := HT.out; unfold rightB; (simp [hcb, d0, c0, t2]) <;> omega)
                go_wp2_with fail
                go_ret
                exact ⟨congrArg (fun b => Ending.returned (Value.bool b)) HV.out, HB.out⟩
          · obtain ⟨c1, c2⟩ := len_gt c0
            have HV : Hid (false = rightB ⟨5, n, d, c⟩) := Lib.hid (by have hcb := HCB.out; unfold rightB; (simp [hcb, d0, c0]) <;> omega)
            go_wp2_with fail
            go_ret
            exact ⟨congrArg (fun b => Ending.returned (Value.bool b)) HV.out, HB.out⟩
        · obtain ⟨d1, d2⟩ := len_gt d0
          have HV : Hid (false = rightB ⟨5, n, d, c⟩) := Lib.hid (by have hcb := HCB.out; unfold rightB; (simp [hcb, d0]) <;> omega)
          go_wp2_with fail
          go_ret
          exact ⟨congrArg (fun b => Ending.returned (Value.bool b)) HV.out, HB.out⟩
      by_cases h6 : k = 6
      · subst h6
        rcases Bool.eq_false_or_eq_true d.isEmpty with d0 | d0
        · obtain ⟨d1, d2⟩ := len_ngt d0
          rcases Bool.eq_false_or_eq_true (decide ((20 : Int) < c.length)) with c3 | c3
          · have c4 : decide (c.length ≤ 20) = false := by have := of_decide_eq_true c3; simp; omega
            have HV : Hid (false = rightB ⟨6, n, d, c⟩) := Lib.hid (by have hcb := HCB.out; unfold rightB; (simp [hcb, d0, c4]) <;> omega)
            go_wp2_with fail
            go_ret
            exact ⟨congrArg (fun b => Ending.returned (Value.bool b)) HV.out, HB.out⟩
          · have c4 : decide (c.length ≤ 20) = true := by have := of_decide_eq_false c3; simp; omega
            have d3 : decide ((131072 : Int) < d.length) = false := by rw [List.isEmpty_iff] at d0; rw [d0]; rfl
            rcases Bool.eq_false_or_eq_true (decide (n < 0)) with t | t
            · have tt := of_decide_eq_true t
              have HT := Lib.hid tt
              clear tt
              have HV : Hid (false = rightB ⟨6, n, d, c⟩) := Lib.hid (by have tt := HT.out; rw [eq_comm, Bool.eq_false_iff]; intro h; have := (right_p h).n.1.1; simp at this; omega)
              go_wp2_with fail
              go_ret
              exact ⟨congrArg (fun b => Ending.returned (Value.bool b)) HV.out, HB.out⟩
            · have HT := Lib.hid (of_decide_eq_false t)
              have HV : Hid (decide (n ≤ 1048576) = rightB ⟨6, n, d, c⟩) := Lib.hid (by have hcb := HCB.out; have tt := HT.out; unfold rightB; (simp [hcb, d0, c4]) <;> omega)
              go_wp2_with fail
              go_ret
              exact ⟨congrArg (fun b => Ending.returned (Value.bool b)) HV.out, HB.out⟩
        · obtain ⟨d1, d2⟩ := len_gt d0
          have HV : Hid (false = rightB ⟨6, n, d, c⟩) := Lib.hid (by have hcb := HCB.out; unfold rightB; (simp [hcb, d0]) <;> omega)
          go_wp2_with fail
          go_ret
          exact ⟨congrArg (fun b => Ending.returned (Value.bool b)) HV.out, HB.out⟩
      have t1 : (k == 1) = false := beq_eq_false_iff_ne.2 h1
      have t5 : (k == 5) = false := beq_eq_false_iff_ne.2 h5
      have t6 : (k == 6) = false := beq_eq_false_iff_ne.2 h6
      have u3 : (k != 3) = true := bne_iff_ne.2 h3
      have u6 : (k != 6) = true := bne_iff_ne.2 h6
      rcases Bool.eq_false_or_eq_true d.isEmpty with d0 | d0
      · obtain ⟨d1, d2⟩ := len_ngt d0
        rcases Bool.eq_false_or_eq_true c.isEmpty with c0 | c0
        · obtain ⟨c1, c2⟩ := len_ngt c0
          have c3 : decide ((20 : Int) < c.length) = false := by rw [List.isEmpty_iff] at c0; rw [c0]; rfl
          have d3 : decide ((131072 : Int) < d.length) = false := by rw [List.isEmpty_iff] at d0; rw [d0]; rfl
          rcases Bool.eq_false_or_eq_true (decide (n < 0)) with t | t
          · have tt := of_decide_eq_true t
            have HT := Lib.hid tt
            clear tt
            have HV : Hid (false = rightB ⟨k, n, d, c⟩) := Lib.hid (by have tt := HT.out; rw [eq_comm, Bool.eq_false_iff]; intro h; have := (right_p h).n.1.1; simp at this; omega)
            go_wp2_with fail
            go_ret
            exact ⟨congrArg (fun b => Ending.returned (Value.bool b)) HV.out, HB.out⟩
          · have HT := Lib.hid (of_decide_eq_false t)
            rcases Bool.eq_false_or_eq_true (decide ((2 : Int) ≤ k)) with t2 | t2
            · have t3 : decide (k ≤ 4) = false := by have := of_decide_eq_true t2; simp; omega
              have HV : Hid (false = rightB ⟨k, n, d, c⟩) := Lib.hid (by have hcb := HCB.out; have tt := HT.out; unfold rightB; (simp [hcb, h1, h2, h3, h4, h5, h6, d0, c0]) <;> omega)
              go_wp2_with fail
              go_ret
              exact ⟨congrArg (fun b => Ending.returned (Value.bool b)) HV.out, HB.out⟩
            · skip
              have HV : Hid (false = rightB ⟨k, n, d, c⟩) := Lib.hid (by have hcb := HCB.out; have tt := HT.out; unfold rightB; (simp [hcb, h1, h2, h3, h4, h5, h6, d0, c0]) <;> omega)
              go_wp2_with fail
              go_ret
              exact ⟨congrArg (fun b => Ending.returned (Value.bool b)) HV.out, HB.out⟩
        · obtain ⟨c1, c2⟩ := len_gt c0
          have HV : Hid (false = rightB ⟨k, n, d, c⟩) := Lib.hid (by have hcb := HCB.out; unfold rightB; (simp [hcb, h1, h2, h3, h4, h5, h6, d0, c0]) <;> omega)
          go_wp2_with fail
          go_ret
          exact ⟨congrArg (fun b => Ending.returned (Value.bool b)) HV.out, HB.out⟩
      · obtain ⟨d1, d2⟩ := len_gt d0
        have HV : Hid (false = rightB ⟨k, n, d, c⟩) := Lib.hid (by have hcb := HCB.out; unfold rightB; (simp [hcb, h1, h2, h3, h4, h5, h6, d0]) <;> omega)
        go_wp2_with fail
        go_ret
        exact ⟨congrArg (fun b => Ending.returned (Value.bool b)) HV.out, HB.out⟩
end Go.Proofs.YtmaifldiondchaaDoor
