/- The law AuditMatchesReference: its walk. -/
import Derived.Test.YtmhckcghfikeiaaDoorLaw27c
import Derived.Test.YtmhckcghfikeiaaDoorRef27
namespace Go.Proofs.YtmhckcghfikeiaaDoor
open Go.RowKit
set_option linter.unusedSimpArgs false

theorem lits_rf {f : ByteArray × Int} (h : TfOk f) : Tryd.prog.keyLits 3 33 (tfC f) = some [Lit.string f.1.data.toList, Lit.int .i64 f.2] := by
  have hc : Tryd.prog.cellsOf 33 = 2 := by kernel_rfl
  have hc1 : Tryd.prog.cellsOf 9 = 1 := by kernel_rfl
  have hc2 : Tryd.prog.cellsOf 3 = 1 := by kernel_rfl
  have hsz : f.1.size ≤ maxLen := by have := h.1; unfold maxLen; omega
  have k1 : Tryd.prog.keyLits 2 9 [.string f.1] = some [Lit.string f.1.data.toList] := by
    unfold Program.keyLits
    rw [Tryd.underlying9]
    simp [hsz]
  have k2 : Tryd.prog.keyLits 2 3 [.int .i64 f.2] = some [Lit.int .i64 f.2] := by
    unfold Program.keyLits
    rw [Tryd.underlying3]
    simp [wf_i64 h.2]
  unfold Program.keyLits
  rw [Tryd.underlying33]
  simp [tfC, hc, hc1, hc2, k1, k2]
theorem run_eqR {x y : ByteArray × Int} (hx : TfOk x) (hy : TfOk y) (w : World) : (Op.equalIn 10000 33 (.agg #[.string x.1, .int .i64 x.2]) (.agg #[.string y.1, .int .i64 y.2])).run Tryd.prog w = .ok (decide (x = y)) w := by
  have hu := Tryd.underlying33
  have hc : Tryd.prog.cellsOf 33 = 2 := by kernel_rfl
  have form : ∀ x : ByteArray × Int, Value.formed Tryd.prog 33 (.agg #[.string x.1, .int .i64 x.2]) = true := fun x => by
    unfold Value.formed
    rw [hu]
    simp [hc]
  obtain ⟨r, hr, hiff⟩ := run_equalIn_deep (P := Tryd.prog) 9997 3 33 (by kernel_rfl) w 3 3 (.agg #[.string x.1, .int .i64 x.2]) (.agg #[.string y.1, .int .i64 y.2]) _ _ (form x) (form y) (lits_rf hx) (lits_rf hy)
  rw [hr]
  congr 1
  by_cases h : x = y
  · subst h
    simpa using hiff.2 rfl
  · have : ¬ r = true := fun e => by
      have := hiff.1 e
      simp only [List.cons.injEq, Lit.string.injEq, Lit.int.injEq, true_and, and_true] at this
      exact h (tf_eq (ByteArray.ext (Array.toList_inj.1 this.1)) this.2)
    simpa [h] using this

theorem isEmpty_len (F : List (Nat × Nat)) : F.isEmpty = ((F.length : Int) == 0) := by
  rw [Bool.eq_iff_iff, List.isEmpty_iff, beq_iff_eq]
  constructor
  · rintro rfl; rfl
  · intro h; exact List.length_eq_zero_iff.1 (by omega)

set_option maxRecDepth 100000 in
set_option maxHeartbeats 4000000 in
theorem matches_any (skew : Int) (l : List RowD) (A : Option Addr) (cap : Nat) (w : World) (ht : Tab w) (hs : Sn w 36 (.slice A l.length cap) l.length (l.flatMap rowC)) (hok : ∀ r ∈ l, RowOk r) (hm : l.length ≤ 9223372036854775807) (hsk : isI64 skew) :
    Calls Tryd.prog 3 #[.int .i64 skew, .slice A l.length cap] w fun e w' => e = .returned (.bool true) ∧ Below w.heap.size w w' := by
  have HS := Lib.hid hs
  have HOK := Lib.hid hok
  have HT := Lib.hid ht
  clear hs hok ht
  rcases Bool.eq_false_or_eq_true (fewB skew l) with d1 | d1
  rotate_left 1
  · skip
    go_enter Tryd.func3, Tryd.ntmps3
    go_wp2_with fail
    refine (awake_any w HT.out).mono ?_
    rintro e w1 ⟨rfl, hb1⟩
    have HB1 := Lib.hid hb1
    clear hb1
    go_wp2_with fail
    refine (few_any skew l A cap w1 (HS.out.below HB1.out) HOK.out hm).mono ?_
    rintro e w2 ⟨rfl, hw2⟩
    rw [hw2]
    clear hw2
    go_wp2_with fail
    refine (awake_any w1 (HT.out.below HB1.out)).mono ?_
    rintro e w2 ⟨rfl, hb2⟩
    have HB2 := Lib.hid hb2
    clear hb2
    go_wp2_with fail
    go_ret
    exact ⟨rfl, bstep HB1.out HB2.out⟩
  · have hl60 : l.length ≤ 60 := by
      unfold fewB at d1
      simp only [Bool.and_eq_true, decide_eq_true_eq] at d1
      omega
    have HLV : Hid (∀ r ∈ l, -1099511627776 ≤ r.live ∧ r.live ≤ 1099511627776) := Lib.hid (by
      intro r hr
      unfold fewB at d1
      simp only [Bool.and_eq_true, List.all_eq_true] at d1
      have h := d1.1 r hr
      unfold liveOk at h
      simp only [Bool.not_eq_true', Bool.or_eq_false_iff, decide_eq_false_iff_not] at h
      omega)
    go_enter Tryd.func3, Tryd.ntmps3
    go_wp2_with fail
    refine (awake_any w HT.out).mono ?_
    rintro e w1 ⟨rfl, hb1⟩
    have HB1 := Lib.hid hb1
    clear hb1
    go_wp2_with fail
    refine (few_any skew l A cap w1 (HS.out.below HB1.out) HOK.out hm).mono ?_
    rintro e w2 ⟨rfl, hw2⟩
    rw [hw2]
    clear hw2
    go_wp2_with fail
    have HS1 := HS.out.below HB1.out
    refine (given_any l A cap w1 HS1 HOK.out (by omega)).mono ?_
    clear HS1
    rintro e w2 ⟨v2, rfl, hown2, hb2⟩
    obtain ⟨A2, c2, e2, hs2, hi2⟩ := own_slice hown2
    subst e2
    have HS2 := Lib.hid hs2
    have HI2 := Lib.hid hi2
    have HB2 := Lib.hid (bstep HB1.out hb2)
    clear hown2 hs2 hi2 hb2
    go_wp2_with fail
    obtain ⟨F, hF⟩ : ∃ F, F = findL skew l := ⟨_, rfl⟩
    refine (find_any skew l A2 c2 w2 HS2.out HOK.out hsk (by omega) HI2.out).mono ?_
    rintro e w3 ⟨v3, rfl, hown3, hb3⟩
    obtain ⟨A3, c3, e3, hs3, hi3⟩ := own_slice hown3
    subst e3
    rw [← hF] at hs3
    rw [← hF]
    have HS3 := Lib.hid hs3
    have HB3 := Lib.hid (bstep HB2.out hb3)
    clear hown3 hs3 hi3 hb3
    have hFl : F.length ≤ 300 := by rw [hF]; have := findL_len skew l; omega
    have HFK : Hid (∀ f ∈ F.map tfOf, TfOk f) := Lib.hid (by rw [hF]; exact findK_tf skew l l.length (by omega))
    have HF := Lib.hid hF
    clear hF
    go_wp2_with fail
    refine (ref_find_any skew l A cap w3 (HS.out.below HB3.out) HOK.out hsk hl60 HLV.out).mono ?_
    rintro e w4 ⟨v4, rfl, hown4, hb4⟩
    obtain ⟨A4, c4, e4, hs4, hi4⟩ := own_slice hown4
    subst e4
    rw [← HF.out] at hs4
    rw [← HF.out]
    have HS4 := Lib.hid hs4
    have HB34 := Lib.hid hb4
    have HB4 := Lib.hid (bstep HB3.out hb4)
    clear hown4 hs4 hi4 hb4
    have t0 : ((F.length : Int) != (F.length : Int)) = false := bne_self_eq_false _
    go_wp2_with fail
    have HS4' := HS.out.below HB4.out
    refine (given_any l A cap w4 HS4' HOK.out (by omega)).mono ?_
    clear HS4'
    rintro e w5 ⟨v5, rfl, hown5, hb5⟩
    obtain ⟨A5, c5, e5, hs5, hi5⟩ := own_slice hown5
    subst e5
    have HS5 := Lib.hid hs5
    have HI5 := Lib.hid hi5
    have HB45 := Lib.hid hb5
    have HB5 := Lib.hid (bstep HB4.out hb5)
    clear hown5 hs5 hi5 hb5
    go_wp2_with fail
    refine (clean_any skew l A5 c5 w5 HS5.out HOK.out hsk (by omega) HI5.out).mono ?_
    rintro e w6 ⟨rfl, hb6⟩
    rw [← HF.out, isEmpty_len F]
    have HB46 := Lib.hid (bstep HB45.out hb6)
    have HB6 := Lib.hid (bstep HB5.out hb6)
    have HS46 := Lib.hid (HS4.out.below HB46.out)
    have HS36 := Lib.hid ((HS3.out.below HB34.out).below HB46.out)
    clear hb6
    obtain ⟨Z, hZ⟩ : ∃ Z, Z = ((F.length : Int) == 0) := ⟨_, rfl⟩
    rw [← hZ]
    have t1 : (Z != Z) = false := bne_self_eq_false _
    have hZ2 : ((F.length : Int) == 0) = Z := hZ.symm
    clear hZ
    go_wp2_with fail
    clear hZ2 t1
    go_loopw [7] (fun i wr => ∃ k : Nat, k ≤ F.length ∧ i = .int .i64 k ∧ Hid (Below w6.heap.size w6 wr)) (fun i _ => F.length - (intOf i).toNat)
    case atStart => exact ⟨0, Nat.zero_le _, rfl, Lib.hid (Below.refl _ _)⟩
    case round =>
      obtain ⟨k, hk, rfl, HBR⟩ := hrel
      have HRF := Lib.hid (HS36.out.below HBR.out)
      have HRW := Lib.hid (HS46.out.below HBR.out)
      rcases Nat.lt_or_ge k F.length with hlt | hge
      · obtain ⟨b, off, eA, hrow⟩ := at_fd HRF.out k hlt
        obtain ⟨b', off', eB, hrow'⟩ := at_fd HRW.out k hlt
        subst eA eB
        obtain ⟨x, hx⟩ : ∃ x, x = tfOf F[k] := ⟨_, rfl⟩
        have c0 : wr.cell? ⟨b, off + k * 2, none⟩ = some (.string x.1) := by rw [hx]; exact hrow 0 _ rfl
        have c1 : wr.cell? ⟨b, off + k * 2 + 1, none⟩ = some (.int .i64 x.2) := by rw [hx]; exact hrow 1 _ rfl
        have e0 : wr.cell? ⟨b', off' + k * 2, none⟩ = some (.string x.1) := by rw [hx]; exact hrow' 0 _ rfl
        have e1 : wr.cell? ⟨b', off' + k * 2 + 1, none⟩ = some (.int .i64 x.2) := by rw [hx]; exact hrow' 1 _ rfl
        have hxo : TfOk x := by rw [hx]; exact HFK.out _ (List.mem_map.2 ⟨F[k], List.getElem_mem _, rfl⟩)
        have heq := run_eqR hxo hxo
        rw [decide_eq_true (rfl : x = x)] at heq
        have hi0 : (0 : Int) ≤ k := by omega
        have hi1 : (k : Int) < F.length := by omega
        clear hrow hrow' hx hxo
        go_wp2_with fail
        go_quiet (fail)
        go_wp2_with fail
        exact ⟨⟨k + 1, by omega, by go_num, Lib.hid (bdrewN HBR.out _)⟩, by simp [intOf]; omega⟩
      · obtain rfl : k = F.length := by omega
        have hml : (F.map tfOf).length = F.length := by simp
        have hE1 : Sn wr 2 (.slice A3 (F.map tfOf).length c3) (F.map tfOf).length ((F.map tfOf).flatMap tfC) := by rw [hml, ← findC_tf]; exact HRF.out
        have hE2 : Sn wr 2 (.slice A4 (F.map tfOf).length c4) (F.map tfOf).length ((F.map tfOf).flatMap tfC) := by rw [hml, ← findC_tf]; exact HRW.out
        have HBX := Lib.hid (bstep HB6.out HBR.out)
        have HC1 := text_any (F.map tfOf) A3 c3 wr (HT.out.below HBX.out) hE1 HFK.out (by rw [hml]; omega)
        rw [hml] at HC1
        have HE2 := Lib.hid hE2
        clear hE1 hE2
        go_wp2_with fail
        refine HC1.mono ?_
        clear HC1
        rintro e w8 ⟨rfl, hb8⟩
        have HC2 := ref_text_any (F.map tfOf) A4 c4 w8 (HE2.out.below hb8) HFK.out (by rw [hml]; omega)
        rw [hml] at HC2
        have HB8 := Lib.hid (bstep HBX.out hb8)
        clear hb8
        go_wp2_with fail
        refine HC2.mono ?_
        clear HC2
        rintro e w9 ⟨rfl, hb9⟩
        have HB9 := Lib.hid (bstep HB8.out hb9)
        clear hb9
        go_wp2_with fail
        go_ret
        refine ⟨?_, HB9.out⟩
        simp
end Go.Proofs.YtmhckcghfikeiaaDoor
