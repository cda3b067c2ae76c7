/- The law AuditBegins: its walk. -/
import Derived.Test.YtmhckcghfikeiaaDoorAwake27
namespace Go.Proofs.YtmhckcghfikeiaaDoor
open Go.RowKit
set_option linter.unusedSimpArgs false

theorem tfOf_ok (f : Nat × Nat) (h : f.2 ≤ 100000) : TfOk (tfOf f) := by
  refine ⟨?_, by simp only [tfOf, isI64]; omega⟩
  obtain ⟨i, k⟩ := f
  simp only [tfOf]
  match i with
  | 0 => decide
  | 1 => decide
  | 2 => decide
  | 3 => decide
  | i + 4 => exact (by decide : (ruleN 4).size ≤ 1000)
theorem findK_tf (skew : Int) (l : List RowD) (k : Nat) (hk : k ≤ 100000) : ∀ f ∈ (findK skew l k).map tfOf, TfOk f := by
  intro f hf
  simp only [List.mem_map] at hf
  obtain ⟨g, hg, rfl⟩ := hf
  exact tfOf_ok g (by have := (findK_at skew l k g hg).2; omega)

theorem Sn.firsts {w : World} {s n cap : Nat} {A : Option Addr} {xs : List Value} (h : Sn w s (.slice A n cap) n xs) (k : Nat) (hk : k ≤ n) : Sn w s (.slice A k cap) k (xs.take (k * s)) := by
  obtain ⟨A', cap', hv, hc, hl, hx⟩ := h
  injection hv with hA _ hcp
  subst hA hcp
  refine ⟨_, _, rfl, by omega, ?_, fun hp => ?_⟩
  · rw [List.length_take, hl, Nat.min_eq_left (Nat.mul_le_mul_right s hk)]
  · obtain ⟨b, off, rfl, hcell⟩ := hx (by omega)
    refine ⟨b, off, rfl, fun j u hj => hcell j u ?_⟩
    rw [List.getElem?_take] at hj
    split at hj
    · exact hj
    · cases hj
theorem flat_take {α : Type} (C : α → List Value) (s : Nat) : ∀ (l : List α), (∀ x ∈ l, (C x).length = s) → ∀ k, k ≤ l.length → (l.flatMap C).take (k * s) = (l.take k).flatMap C
  | [], _, k, hk => by simp
  | x :: l, h, 0, _ => by simp
  | x :: l, h, k + 1, hk => by
    have hx := h x (by simp)
    rw [List.flatMap_cons, List.take_succ_cons, List.flatMap_cons, Nat.add_mul, Nat.one_mul, Nat.add_comm, List.take_append, hx, List.take_of_length_le (by omega), Nat.add_sub_cancel_left]
    rw [flat_take C s l (fun y hy => h y (by simp [hy])) k (by simpa using hk)]
theorem at_fd {w : World} {A : Option Addr} {cap : Nat} {l : List (Nat × Nat)} (h : Sn w 2 (.slice A l.length cap) l.length (l.flatMap findC)) (k : Nat) (hk : k < l.length) :
    ∃ b off, A = some ⟨b, off, none⟩ ∧ w.rangeAt b (off + k * 2) (findC l[k]) := by
  obtain ⟨b, off, rfl, hr⟩ := h.range k hk
  rw [flatMap_piece findC 2 l (fun _ _ => rfl) k hk] at hr
  exact ⟨b, off, rfl, hr⟩

set_option maxRecDepth 100000 in
set_option maxHeartbeats 4000000 in
theorem begins_any (skew : Int) (l : List RowD) (A : Option Addr) (cap : Nat) (n : Int) (w : World) (ht : Tab w) (hs : Sn w 36 (.slice A l.length cap) l.length (l.flatMap rowC)) (hok : ∀ r ∈ l, RowOk r) (hm : l.length ≤ 9223372036854775807) (hsk : isI64 skew) (hn0 : 0 ≤ n) (hn1 : n ≤ 255) :
    Calls Tryd.prog 5 #[.int .i64 skew, .slice A l.length cap, .int .u8 n] w fun e w' => e = .returned (.bool true) ∧ Below w.heap.size w w' := by
  have HS := Lib.hid hs
  have HOK := Lib.hid hok
  have HT := Lib.hid ht
  clear hs hok ht
  rcases Bool.eq_false_or_eq_true (fewB skew l) with d1 | d1
  rotate_left 1
  · go_enter Tryd.func5, Tryd.ntmps5
    go_wp2_with fail
    refine (awake_any w HT.out).mono ?_
    rintro e w1 ⟨rfl, hb1⟩
    have HB1 := Lib.hid hb1
    clear hb1
    go_wp2_with fail
    refine (few_any skew l A cap w1 (HS.out.below HB1.out) HOK.out hm).mono ?_
    rintro e w2 ⟨rfl, hw2⟩
    rw [hw2]
    clear hw2
    go_wp2_with fail
    refine (awake_any w1 (HT.out.below HB1.out)).mono ?_
    rintro e w2 ⟨rfl, hb2⟩
    have HB2 := Lib.hid hb2
    clear hb2
    go_wp2_with fail
    go_ret
    exact ⟨rfl, bstep HB1.out HB2.out⟩
  · have hl60 : l.length ≤ 60 := by
      unfold fewB at d1
      simp only [Bool.and_eq_true, decide_eq_true_eq] at d1
      omega
    have hn2 : n % ((l.length : Int) + 1) = ((n.toNat % (l.length + 1) : Nat) : Int) := by
      rw [Int.natCast_emod, Int.toNat_of_nonneg hn0]; rfl
    obtain ⟨k, hk⟩ : ∃ k, k = n.toNat % (l.length + 1) := ⟨_, rfl⟩
    have hkl : k ≤ l.length := by have := Nat.mod_lt n.toNat (show 0 < l.length + 1 by omega); omega
    rw [← hk] at hn2
    have HN2 := Lib.hid hn2
    clear hk hn2
    go_enter Tryd.func5, Tryd.ntmps5
    go_wp2_with fail
    refine (awake_any w HT.out).mono ?_
    rintro e w1 ⟨rfl, hb1⟩
    have HB1 := Lib.hid hb1
    clear hb1
    go_wp2_with fail
    refine (few_any skew l A cap w1 (HS.out.below HB1.out) HOK.out hm).mono ?_
    rintro e w2 ⟨rfl, hw2⟩
    rw [hw2]
    clear hw2
    go_wp2_with fail
    rw [HN2.out]
    have hk0 : (0 : Int) ≤ k := by omega
    have hk1 : (k : Int) ≤ l.length := by omega
    have hcap : l.length ≤ cap := by obtain ⟨A', cap', hv, hc, _⟩ := HS.out; injection hv with _ _ h3; omega
    have hk2 : (k : Int) ≤ cap := by omega
    have hk3 : k ≤ cap := by omega
    refine (given_any l A cap w1 (HS.out.below HB1.out) HOK.out (by omega)).mono ?_
    rintro e w2 ⟨v2, rfl, hown2, hb2⟩
    obtain ⟨A2, c2, rfl, hs2, hi2⟩ := own_slice hown2
    have HS2 := Lib.hid hs2
    have HI2 := Lib.hid hi2
    have HB2 := Lib.hid (bstep HB1.out hb2)
    clear hown2 hs2 hi2 hb2
    go_wp2_with fail
    refine (find_any skew l A2 c2 w2 HS2.out HOK.out hsk (by omega) HI2.out).mono ?_
    rintro e w3 ⟨v3, rfl, hown3, hb3⟩
    obtain ⟨A3, c3, rfl, hs3, hi3⟩ := own_slice hown3
    have HS3 := Lib.hid hs3
    have HB3 := Lib.hid (bstep HB2.out hb3)
    clear hown3 hs3 hi3 hb3
    go_wp2_with fail
    obtain ⟨L, hLdef⟩ : ∃ L, L = l.take k := ⟨_, rfl⟩
    have hLl : L.length = k := by rw [hLdef, List.length_take]; omega
    have hLok : ∀ r ∈ L, RowOk r := fun r hr => HOK.out r (by rw [hLdef] at hr; exact List.mem_of_mem_take hr)
    have hLs : Sn w3 36 (.slice A L.length cap) L.length (L.flatMap rowC) := by
      have := (HS.out.below HB3.out).firsts k hkl
      rw [flat_take rowC 36 l (fun r hr => rowC_length (HOK.out r hr)) k hkl, ← hLdef] at this
      rw [hLl]; exact this
    have hFP : findL skew L = findK skew l k := by rw [hLdef]; exact findL_take skew l k hkl
    obtain ⟨FA, hFA⟩ : ∃ FA, FA = findL skew l := ⟨_, rfl⟩
    obtain ⟨FP, hFPd⟩ : ∃ FP, FP = findL skew L := ⟨_, rfl⟩
    obtain ⟨R, hR, hRk⟩ := findK_prefix skew l k l.length hkl
    have hsplit : FA = FP ++ R := by rw [hFA, hFPd, hFP]; exact hR
    have hPk : ∀ f ∈ FP, f.2 < k := fun f hf => by rw [hFPd, hFP] at hf; exact (findK_at skew l k f hf).2
    have hFAok : ∀ f ∈ FA.map tfOf, TfOk f := by rw [hFA]; exact findK_tf skew l l.length (by omega)
    have hFPok : ∀ f ∈ FP.map tfOf, TfOk f := by rw [hFPd, hFP]; exact findK_tf skew l k (by omega)
    have hFAlen : FA.length ≤ 300 := by rw [hFA]; have := findL_len skew l; omega
    have hPle : FP.length ≤ FA.length := by rw [hsplit, List.length_append]; omega
    have HG := given_any L A cap w3 hLs hLok (by omega)
    rw [hLl] at HG
    have HS3' := HS3.out
    rw [← hFA] at HS3'
    have HS3 := Lib.hid HS3'
    have HLOK := Lib.hid hLok
    have HLL := Lib.hid hLl
    have HSP := Lib.hid hsplit
    have HPK := Lib.hid hPk
    have HRK := Lib.hid hRk
    have HFPOK := Lib.hid hFPok
    have HFAe := Lib.hid hFA
    have HFPe := Lib.hid hFPd
    rw [← hFA]
    clear hLs hFP hR hRk hsplit hPk hFAok hFPok HS3' hLok hLdef hFA hFPd
    refine HG.mono ?_
    clear HG
    rintro e w4 ⟨v4, rfl, hown4, hb4⟩
    obtain ⟨A4, c4, e4, hs4, hi4⟩ := own_slice hown4
    have HS4 := Lib.hid hs4
    have HI4 := Lib.hid hi4
    have HB4 := Lib.hid hb4
    clear hown4 hs4 hi4 hb4 hLl
    subst e4
    go_wp2_with fail
    refine (find_any skew L A4 c4 w4 HS4.out HLOK.out hsk (by have := HLL.out; omega) HI4.out).mono ?_
    rintro e w5 ⟨v5, rfl, hown5, hb5⟩
    obtain ⟨A5, c5, e5, hs5, hi5⟩ := own_slice hown5
    subst e5
    rw [← HFPe.out] at hs5
    rw [← HFPe.out]
    have HS5 := Lib.hid hs5
    have HB35 := Lib.hid (bstep HB4.out hb5)
    have HS35 := Lib.hid (HS3.out.below HB35.out)
    clear hown5 hs5 hi5 hb5
    go_wp2_with fail
    go_loopw [10, 11] (fun m i wr => ∃ j : Nat, j ≤ FA.length ∧ i = .int .i64 j ∧ m = .int .i64 (min j FP.length : Nat) ∧ wr = w5) (fun _ i _ => FA.length - (intOf i).toNat)
    case atStart => exact ⟨0, Nat.zero_le _, rfl, by simp, rfl⟩
    case round =>
      obtain ⟨j, hj, rfl, rfl, hw⟩ := hrel
      rw [hw]
      clear hw
      rcases Nat.lt_or_ge j FA.length with hlt | hge
      · obtain ⟨b, off, eA, hrow⟩ := at_fd HS35.out j hlt
        have c1 : w5.cell? ⟨b, off + j * 2 + 1, none⟩ = some (.int .i64 FA[j].2) := hrow 1 _ rfl
        have hi0 : (0 : Int) ≤ j := by omega
        have hi1 : (j : Int) < FA.length := by omega
        subst eA
        clear hrow
        rcases Nat.lt_or_ge j FP.length with hjp | hjp
        · have hget : FA[j].2 < k := by
            have : FA[j] = FP[j] := by
              have h1 := HSP.out
              subst h1
              exact List.getElem_append_left hjp
            rw [this]; exact HPK.out _ (List.getElem_mem _)
          have t1 : decide ((FA[j].2 : Int) < k) = true := by simpa using hget
          have hmn : min j FP.length = j := by omega
          have hmn2 : Hid (min (j + 1) FP.length = j + 1) := Lib.hid (by omega)
          have hb1 : (j : Int) + 1 ≤ 9223372036854775807 := by omega
          obtain ⟨z, hz⟩ : ∃ z, z = (FA[j].2 : Int) := ⟨_, rfl⟩
          rw [← hz] at c1 t1
          rw [hmn]
          clear hz hget hmn
          go_wp2_with fail
          exact ⟨⟨j + 1, by omega, by go_num, by rw [hmn2.out]; go_num, by trivial⟩, by simp [intOf]; omega⟩
        · have hget : k ≤ FA[j].2 := by
            have h1 := HSP.out
            subst h1
            rw [List.getElem_append_right hjp]
            exact HRK.out _ (List.getElem_mem _)
          have t1 : decide ((FA[j].2 : Int) < k) = false := by simp; omega
          have hmn : min j FP.length = FP.length := by omega
          have hmn2 : Hid (min (j + 1) FP.length = FP.length) := Lib.hid (by omega)
          obtain ⟨z, hz⟩ : ∃ z, z = (FA[j].2 : Int) := ⟨_, rfl⟩
          rw [← hz] at c1 t1
          rw [hmn]
          clear hz hget hmn
          go_wp2_with fail
          exact ⟨⟨j + 1, by omega, by go_num, by rw [hmn2.out], by trivial⟩, by simp [intOf]; omega⟩
      · obtain rfl : j = FA.length := by omega
        have hmn : min FA.length FP.length = FP.length := by omega
        rw [hmn]
        have hca : FA.length ≤ c3 := by obtain ⟨A', cap', hv, hc, _⟩ := HS35.out; injection hv with _ _ h3; omega
        have hk5 : (FP.length : Int) ≤ c3 := by omega
        have hk6 : FP.length ≤ c3 := by omega
        have hk7 : (FP.length : Int) ≤ FA.length := by omega
        have t0 : ((FP.length : Int) == (FP.length : Int)) = true := beq_self_eq_true _
        clear hmn
        have hml : (FP.map tfOf).length = FP.length := by simp
        have hE1 : Sn w5 2 (.slice A5 (FP.map tfOf).length c5) (FP.map tfOf).length ((FP.map tfOf).flatMap tfC) := by rw [hml, ← findC_tf]; exact HS5.out
        have hE2 : Sn w5 2 (.slice A3 (FP.map tfOf).length c3) (FP.map tfOf).length ((FP.map tfOf).flatMap tfC) := by
          have h1 := HS35.out.firsts FP.length hPle
          rw [flat_take findC 2 FA (fun _ _ => rfl) FP.length hPle] at h1
          have h2 : FA.take FP.length = FP := by rw [HSP.out, List.take_left']; rfl
          rw [h2] at h1
          rw [hml, ← findC_tf]; exact h1
        have HEQ := eqF_any (FP.map tfOf) (FP.map tfOf) A5 A3 c5 c3 w5 hE1 hE2 (by rw [hml]; omega) HFPOK.out HFPOK.out
        rw [hml, decide_eq_true rfl] at HEQ
        have HBF := Lib.hid (bstep HB3.out HB35.out)
        clear hE1 hE2 hml
        go_wp2_with fail
        refine HEQ.mono ?_
        clear HEQ
        rintro e w6 ⟨rfl, d, rfl⟩
        go_wp2_with fail
        go_ret
        exact ⟨rfl, bdrewN HBF.out d⟩
end Go.Proofs.YtmhckcghfikeiaaDoor
