/- The law TallyJoins: its walk. -/
import Derived.Test.YtdidohfdedkfaaaDoorLaw28a
namespace Go.Proofs.YtdidohfdedkfaaaDoor
open Go.RowKit

theorem tRef : SlT Tryd.prog 22 50 36 64 := SlT.mk' Tryd.underlying22 (z := .agg (rowC ⟨0, 0, 0, 0, List.replicate 32 0⟩).toArray) (by kernel_rfl) rfl (by decide)
theorem rows_one (l : List RowD) : ∀ u ∈ l.flatMap rowC, u.oneCell' = true := by
  intro u hu
  obtain ⟨r, _, hr⟩ := List.mem_flatMap.1 hu
  exact rowC_one1 r u (by simpa using hr)
theorem nAcc_append (l m : List RowD) : nAcc (l ++ m) = nAcc l + nAcc m ∧ nOth (l ++ m) = nOth l + nOth m := by
  unfold nAcc nOth
  simp [List.filter_append]

set_option maxRecDepth 100000 in
set_option maxHeartbeats 4000000 in
theorem joins_any (va vb : Value) (l m : List RowD) (w : World) (ht : Tab w) (hs : Sn w 36 va l.length (l.flatMap rowC)) (hok : ∀ r ∈ l, RowOk r) (hs' : Sn w 36 vb m.length (m.flatMap rowC)) (hok' : ∀ r ∈ m, RowOk r) :
    Calls Tryd.prog 4 #[va, vb] w fun e w' => e = .returned (.bool true) ∧ Below w.heap.size w w' := by
  obtain ⟨A, cap, rfl, hcap, _, _⟩ := id hs
  obtain ⟨A', cap', rfl, hcap', _, _⟩ := id hs'
  have HS := Lib.hid hs
  have HOK := Lib.hid hok
  have HS' := Lib.hid hs'
  have HOK' := Lib.hid hok'
  clear hs hok hs' hok'
  rcases Bool.eq_false_or_eq_true (decide ((100 : Int) < l.length)) with d1 | d1
  · go_enter Tryd.func4, Tryd.ntmps4
    go_wp2_with fail
    refine (awake_any w ht).mono ?_
    rintro e w1 ⟨rfl, hb1⟩
    go_wp2_with fail
    refine (awake_any w1 (ht.below hb1)).mono ?_
    rintro e w2 ⟨rfl, hb2⟩
    go_wp2_with fail
    go_ret
    exact ⟨rfl, bstep hb1 hb2⟩
  rcases Bool.eq_false_or_eq_true (decide ((100 : Int) < m.length)) with d2 | d2
  · go_enter Tryd.func4, Tryd.ntmps4
    go_wp2_with fail
    refine (awake_any w ht).mono ?_
    rintro e w1 ⟨rfl, hb1⟩
    go_wp2_with fail
    refine (awake_any w1 (ht.below hb1)).mono ?_
    rintro e w2 ⟨rfl, hb2⟩
    go_wp2_with fail
    go_ret
    exact ⟨rfl, bstep hb1 hb2⟩
  · have hl : l.length ≤ 100 := by have := of_decide_eq_false d1; omega
    have hm : m.length ≤ 100 := by have := of_decide_eq_false d2; omega
    go_enter Tryd.func4, Tryd.ntmps4
    go_wp2_with fail
    refine (awake_any w ht).mono ?_
    rintro e w1 ⟨rfl, hb1⟩
    go_wp2_with fail
    refine (given_any _ l w1 (HS.out.below hb1) HOK.out (by omega)).mono ?_
    rintro e w2 ⟨v2, rfl, hs2, hb2⟩
    obtain ⟨L, hL⟩ : ∃ L, L = l.map bare := ⟨_, rfl⟩
    have hLl : l.length = L.length := by rw [hL, List.length_map]
    have hokL : ∀ r ∈ L, RowOk r := by rw [hL]; exact map_bare_ok HOK.out
    have HOKL := Lib.hid hokL
    clear hokL
    rw [← hL, hLl] at hs2
    have HLl := Lib.hid hLl
    have HL := Lib.hid hL
    clear hLl hL
    go_wp2_with fail
    obtain ⟨x1, y1, hxy1⟩ : ∃ x y, cx (nAcc L) (nOth L) = .complex .f64 x y := ⟨_, _, by unfold cx; rfl⟩
    have hof := of_any v2 L w2 hs2 HOKL.out (by rw [← HLl.out]; omega)
    rw [hxy1] at hof
    have HX1 := Lib.hid hxy1
    clear hxy1
    refine hof.mono ?_
    clear hof
    rintro e w3 ⟨rfl, hb3⟩
    have hb13 := bstep (bstep hb1 hb2) hb3
    go_wp2_with fail
    refine (given_any _ m w3 (HS'.out.below hb13) HOK'.out (by omega)).mono ?_
    rintro e w4 ⟨v4, rfl, hs4, hb4⟩
    obtain ⟨M, hM⟩ : ∃ M, M = m.map bare := ⟨_, rfl⟩
    have hMl : m.length = M.length := by rw [hM, List.length_map]
    have hokM : ∀ r ∈ M, RowOk r := by rw [hM]; exact map_bare_ok HOK'.out
    have HOKM := Lib.hid hokM
    clear hokM
    rw [← hM, hMl] at hs4
    have HMl := Lib.hid hMl
    have HM := Lib.hid hM
    clear hMl hM
    go_wp2_with fail
    obtain ⟨x2, y2, hxy2⟩ : ∃ x y, cx (nAcc M) (nOth M) = .complex .f64 x y := ⟨_, _, by unfold cx; rfl⟩
    have hof := of_any v4 M w4 hs4 HOKM.out (by rw [← HMl.out]; omega)
    rw [hxy2] at hof
    have HX2 := Lib.hid hxy2
    clear hxy2
    refine hof.mono ?_
    clear hof
    rintro e w5 ⟨rfl, hb5⟩
    have hb15 := bstep hb13 (bstep hb4 hb5)
    have hs15 := HS.out.below hb15
    have hs15' := HS'.out.below hb15
    have hszb := hb15.size
    have hown0 := own_new w5 #[] 50 36 0 w5.heap.size w5.heap.size (Nat.le_refl _) rfl (Nat.zero_le _) rfl
    have hbal : Below w5.heap.size w5 (w5.alloc (.cells #[] 50)) := (by repeat (first | exact Below.refl _ _ | assumption | refine bdrewN ?_ _ | refine Below.setCell ?_ (by first | exact Nat.le_refl _ | assumption | omega | (simp <;> omega)) _ | refine Below.alloc ?_ (by first | exact Nat.le_refl _ | assumption | omega | (simp <;> omega)) _))
    go_wp2_with (first
      | (at_builtin; refine app tRef (.tmp 27) (.tmp 28) rfl rfl (v := .slice (some ⟨w5.heap.size, 0, none⟩) 0 0) rfl hown0 rfl (hs15.below hbal) (rows_one l) (by unfold maxLen; omega) (by omega) (by simp) ?_; intro v6 w6 hown6 hg6 _; have hb6 : Below w5.heap.size w5 w6 := hbal.grown hg6 (by simp) (fun g hg => (hown0.lt g hg).1); have hs6 := hs15'.below hb6; have hsz6 := hb6.size)
      | (at_builtin; refine app tRef (.tmp 29) (.tmp 30) rfl rfl (v := v6) rfl hown6 rfl hs6 (rows_one m) (by unfold maxLen; omega) (by omega) (by omega) ?_; intro v7 w7 hown7 hg7 _; have hb7 : Below w5.heap.size w5 w7 := hb6.grown hg7 hsz6 (fun g hg => (hown6.lt g hg).1)))
    have hN := Sn.own hown7
    rw [Nat.zero_add, List.nil_append, ← List.flatMap_append, ← List.length_append] at hN
    obtain ⟨N, hNd⟩ : ∃ N, N = l ++ m := ⟨_, rfl⟩
    have hNl : N.length ≤ 200 := by rw [hNd, List.length_append]; omega
    have HOKN : Hid (∀ r ∈ N, RowOk r) := Lib.hid (by
      rw [hNd]
      intro r hr
      rcases List.mem_append.1 hr with h | h
      · exact HOK.out r h
      · exact HOK'.out r h)
    have HBN : Hid (N.map bare = L ++ M) := Lib.hid (by rw [hNd, List.map_append, ← HL.out, ← HM.out])
    have HC : Hid (nAcc N = nAcc L + nAcc M ∧ nOth N = nOth L + nOth M) := Lib.hid (by
      have h1 := nAcc_append L M
      rw [← HBN.out] at h1
      exact ⟨(map_bare N).1 ▸ h1.1, (map_bare N).2.1 ▸ h1.2⟩)
    rw [← hNd] at hN
    have bL := nAcc_le L
    have bM := nAcc_le M
    rw [← HLl.out] at bL
    rw [← HMl.out] at bM
    have hb07 : Below w.heap.size w w7 := hb15.trans (hb7.mono hszb)
    clear hb7 hg7 hown7 hs6 hsz6 hb6 hg6 hown6 hbal hown0 hs15 hs15' hNd hs4 hs2
    have S1 : sum1 [(nAcc L, nOth L), (nAcc M, nOth M)] = nAcc L + nAcc M := by simp [sum1]
    have S2 : sum2 [(nAcc L, nOth L), (nAcc M, nOth M)] = nOth L + nOth M := by simp [sum2]
    have T1 : sum1 [(nAcc M, nOth M), (nAcc L, nOth L)] = nAcc L + nAcc M := by simp [sum1, Nat.add_comm]
    have T2 : sum2 [(nAcc M, nOth M), (nAcc L, nOth L)] = nOth L + nOth M := by simp [sum2, Nat.add_comm]
    have hS := sum_any _ [(nAcc L, nOth L), (nAcc M, nOth M)] (w7.alloc (.cells #[cx (nAcc L) (nOth L), cx (nAcc M) (nOth M)] 32)) (Sn.sl (Sn.new w7 #[cx (nAcc L) (nOth L), cx (nAcc M) (nOth M)] 32 1 2 rfl)) (by rw [S1]; omega) (by rw [S2]; omega) (by simp)
    rw [S1, S2, HX1.out, HX2.out] at hS
    have hb78 : Below w7.heap.size w7 (w7.alloc (.cells #[.complex .f64 x1 y1, .complex .f64 x2 y2] 32)) := (by repeat (first | exact Below.refl _ _ | assumption | refine bdrewN ?_ _ | refine Below.setCell ?_ (by first | exact Nat.le_refl _ | assumption | omega | (simp <;> omega)) _ | refine Below.alloc ?_ (by first | exact Nat.le_refl _ | assumption | omega | (simp <;> omega)) _))
    refine hS.mono ?_
    clear hS
    have hN8 := hN.below hb78
    have hb08 := bstep hb07 hb78
    rintro e w8 ⟨rfl, hw8⟩
    rw [hw8] at hb08 hN8
    clear hw8 hb78
    have S1h := Lib.hid S1
    have S2h := Lib.hid S2
    have T1h := Lib.hid T1
    have T2h := Lib.hid T2
    clear S1 S2 T1 T2
    go_wp2_with fail
    refine (given_any v7 N w8 hN8 HOKN.out (by omega)).mono ?_
    rintro e w9 ⟨v9, rfl, hs9, hb9⟩
    obtain ⟨K, hK⟩ : ∃ K, K = N.map bare := ⟨_, rfl⟩
    have hKl : N.length = K.length := by rw [hK, List.length_map]
    have HOKK : Hid (∀ r ∈ K, RowOk r) := Lib.hid (by rw [hK]; exact map_bare_ok HOKN.out)
    have HCK : Hid (nAcc K = nAcc L + nAcc M ∧ nOth K = nOth L + nOth M) := Lib.hid (by rw [hK, (map_bare N).1, (map_bare N).2.1]; exact HC.out)
    rw [← hK, hKl] at hs9
    have HKl := Lib.hid hKl
    clear hK hKl
    go_wp2_with fail
    refine (of_any v9 K w9 hs9 HOKK.out (by rw [← HKl.out]; omega)).mono ?_
    rintro e w10 ⟨rfl, hb10⟩
    have hb0a := bstep hb08 (bstep hb9 hb10)
    have hNa := hN8.below (bstep hb9 hb10)
    clear hb08 hN8 hs9 hb9 hb10 hb07 hN hb15 hb5 hb13 hb4 hb3 hb2 hb1
    have hk1 := HCK.out.1
    have hk2 := HCK.out.2
    have q1 : nAcc L + nAcc M < 2 ^ 53 := by omega
    have q2 : nOth L + nOth M < 2 ^ 53 := by omega
    have Q1 := Lib.hid q1
    have Q2 := Lib.hid q2
    have HK1 := Lib.hid hk1
    have HK2 := Lib.hid hk2
    clear q1 q2 hk1 hk2
    go_wp2_with (refine cEq 32 (.tmp 35) (.tmp 38) rfl rfl rfl rfl HK1.out.symm HK2.out.symm Q1.out Q2.out ?_)
    have hT := sum_any _ [(nAcc M, nOth M), (nAcc L, nOth L)] (w10.alloc (.cells #[cx (nAcc M) (nOth M), cx (nAcc L) (nOth L)] 32)) (Sn.sl (Sn.new w10 #[cx (nAcc M) (nOth M), cx (nAcc L) (nOth L)] 32 1 2 rfl)) (by rw [T1h.out]; exact Q1.out) (by rw [T2h.out]; exact Q2.out) (by simp)
    rw [T1h.out, T2h.out, HX1.out, HX2.out] at hT
    have hbab : Below w10.heap.size w10 (w10.alloc (.cells #[.complex .f64 x2 y2, .complex .f64 x1 y1] 32)) := (by repeat (first | exact Below.refl _ _ | assumption | refine bdrewN ?_ _ | refine Below.setCell ?_ (by first | exact Nat.le_refl _ | assumption | omega | (simp <;> omega)) _ | refine Below.alloc ?_ (by first | exact Nat.le_refl _ | assumption | omega | (simp <;> omega)) _))
    refine hT.mono ?_
    clear hT
    have hNb := hNa.below hbab
    have hb0b := bstep hb0a hbab
    rintro e w11 ⟨rfl, hw11⟩
    rw [hw11] at hb0b hNb
    clear hw11 hbab hNa hb0a
    go_wp2_with fail
    refine (ref_of_any v7 N w11 hNb HOKN.out (by omega)).mono ?_
    rintro e w12 ⟨rfl, hb12⟩
    have hn1 := HC.out.1
    have hn2 := HC.out.2
    have HN1 := Lib.hid hn1
    have HN2 := Lib.hid hn2
    clear hn1 hn2
    go_wp2_with fail
    refine (number_any (nAcc N) (nOth N) w12 (by rw [HN1.out]; exact Q1.out) (by rw [HN2.out]; exact Q2.out)).mono ?_
    rintro e w13 ⟨rfl, hb13⟩
    have hb0d := bstep hb0b (bstep hb12 hb13)
    clear hb0b hb12 hb13 hNb
    go_wp2_with (refine cEq 32 (.tmp 44) (.tmp 47) rfl rfl rfl rfl HN1.out.symm HN2.out.symm Q1.out Q2.out ?_)
    have hZ := sum_any (.slice none 0 0) [] w13 ⟨none, 0, rfl, Nat.le_refl _, fun h => absurd h (by simp [cxs])⟩ (by decide) (by decide) (by decide)
    rw [show sum1 [] = 0 from rfl, show sum2 [] = 0 from rfl] at hZ
    refine hZ.mono ?_
    clear hZ
    rintro e w14 ⟨rfl, rfl⟩
    have hx0 := Lib.hid cx_00
    go_wp2_with (refine cEq 32 (.tmp 51) (.const (.complex .f64 0 0)) rfl rfl rfl hx0.out rfl rfl (by decide) (by decide) ?_)
    go_ret
    exact ⟨rfl, hb0d⟩
end Go.Proofs.YtdidohfdedkfaaaDoor
