import Derived.Test.YtillkpjflcgkeaaGreatMT24
import Derived.Test.YtillkpjflcgkeaaGreatMT11
set_option linter.unusedSimpArgs false
set_option maxRecDepth 100000
namespace Go.Proofs.YtillkpjflcgkeaaGreat
open Go.RowKit
attribute [local irreducible] wpQuiet wpAnyH
theorem pay_split {p : List Int} (h : p.length = 40) : (p.take 32).length = 32 ∧ (p.drop 32).length = 8 := by simp [h]
set_option maxHeartbeats 4000000 in
theorem ref17_entry (s : List Int) (w : World) (hl : s.length = 64) (hb : Bys s) :
    Calls Tryz.prog 91 #[.agg (u8s s).toArray] w fun e w' => Below w.heap.size w w' ∧
      ((prsE s = none ∧ e = .returned (.tuple #[.int .u32 0, .agg zE, .bool false])) ∨ (∃ g q, prsE s = some (g, q) ∧ e = .returned (.tuple #[.int .u32 g, .agg (entP q).toArray, .bool true]))) := by
  have hul : (u8s s).length = 64 := by rw [u8s_length, hl]
  obtain ⟨w1, hw1⟩ : ∃ w1, w1 = (w.alloc (.cells (u8s s).toArray 72)).alloc (.cells zE 43) := ⟨_, rfl⟩
  have hA1 : Blk w1 w.heap.size 72 (u8s s).toArray := by rw [hw1]; exact (Blk.new _ _ _).alloc _
  have hZ1 : Blk w1 (w.heap.size + 1) 43 zE := by rw [hw1]; exact Blk.newAt _ _ _ _ (by simp)
  have hb1 : Below w.heap.size w w1 := by rw [hw1]; exact bstep (bel1 _ _) (bel1 _ _)
  have hsz1 : w1.heap.size = w.heap.size + 2 := by rw [hw1]; simp
  have hr1 := hA1.range
  rw [List.toList_toArray] at hr1
  have HR1 := Lib.hid hr1
  have HZ1 := Lib.hid hZ1
  have HW1 := Lib.hid hb1
  have hes : zE.size = 33 := zE_size
  have he1 := zE_one
  have hei : (Tryz.prog.info? 43).map (·.size) = some zE.size := by rw [zE_size]; kernel_rfl
  clear hA1 hZ1 hb1 hr1
  go_enter Tryz.func91, Tryz.ntmps91
  go_upto_region 1 with (refine al 43 zE rfl rfl zeroE ?_)
  rw [← hw1]
  clear hw1
  go_wp2_with (refine ld 72 _ rfl rfl rfl HR1.out Tryz.underlying72 rfl (by rw [hul]; kernel_rfl) ?_)
  refine (ref17_parse s w1 hl hb).mono ?_
  rintro e w2 ⟨hb2, hres⟩
  have HW2 := jz (bstep HW1.out hb2)
  have HZ2 := jz (HZ1.out.keep hb2)
  have hlt2 : w.heap.size + 2 ≤ w2.heap.size := by have := hb2.size; omega
  clear hb2 HR1 HZ1 HW1
  rcases hres with ⟨hn, rfl⟩ | ⟨g, p, v, hp, rfl, hs⟩
  · have HN : Hid (prsE s = none) := jz (by unfold prsE; rw [hn])
    clear hn
    go_wp2_with (first
      | (refine bld 43 _ rfl rfl rfl builtE ?_)
      | (refine stBlk 43 (.tmp 3) (.tmp 24) rfl rfl rfl rfl HZ2.out hei rfl he1 ?_; intro w3 hB3 hb3 _ _; have HB3 := Lib.hid hB3; have HE3 := Lib.hid hb3; clear hB3 hb3))
    have hr := HB3.out.range
    exact bodyPost_ret (results_cellR_mid rfl _ rfl hr Tryz.underlying43 rfl hei) rfl ⟨HW2.out.trans (HE3.out.mono (by omega)), .inl ⟨HN.out, rfl⟩⟩
  · have HP := Lib.hid hp
    have HBP := jz (prs_bys hb hp)
    have HPL := jz (prs_len hp)
    obtain ⟨A, cap, rfl, hcap, _⟩ := id hs
    have HS := Lib.hid hs
    clear hp hs hb hl
    rcases Bool.eq_false_or_eq_true (((p.length : Int)) != 40) with t1 | t1
    · have HN : Hid (prsE s = none) := jz (by
        unfold prsE
        rw [HP.out]
        simp only
        rw [if_neg (fun h => by rw [h.1] at t1; exact absurd t1 (by decide))])
      go_wp2_with (first
        | (refine bld 43 _ rfl rfl rfl builtE ?_)
        | (refine stBlk 43 (.tmp 3) (.tmp 24) rfl rfl rfl rfl HZ2.out hei rfl he1 ?_; intro w3 hB3 hb3 _ _; have HB3 := Lib.hid hB3; have HE3 := Lib.hid hb3; clear hB3 hb3))
      have hr := HB3.out.range
      exact bodyPost_ret (results_cellR_mid rfl _ rfl hr Tryz.underlying43 rfl hei) rfl ⟨HW2.out.trans (HE3.out.mono (by omega)), .inl ⟨HN.out, rfl⟩⟩
    · have h40 : p.length = 40 := by have : (p.length : Int) = 40 := by simpa using t1
                                     omega
      clear t1
      have hsp := pay_split h40
      have HSP := Lib.hid hsp
      have H40 := Lib.hid h40
      have hs2 := HS.out
      rw [h40] at hs2 hcap
      rw [h40]
      obtain ⟨AD, cD, hD⟩ : ∃ AD cD, sliced A 32 40 cap 1 = .slice AD 8 cD := ⟨_, _, rfl⟩
      obtain ⟨AT, cT, hT⟩ : ∃ AT cT, sliced A 0 32 cap 1 = .slice AT 32 cT := ⟨_, _, rfl⟩
      have HSD : Hid (Sn w2 1 (.slice AD 8 cD) (p.drop 32).length (u8s (p.drop 32))) := jz (by
        have h := hs2.sliced 32 40 cap (by omega) (Nat.le_refl _) hcap
        rw [hD, List.take_of_length_le (by rw [u8s_length, h40]; omega)] at h
        rw [hsp.2, show u8s (p.drop 32) = (u8s p).drop 32 by simp [u8s]]
        exact h)
      have HST : Hid (Sn w2 1 (.slice AT 32 cT) 32 (u8s (p.take 32))) := jz (by
        have h := hs2.sliced 0 32 cap (Nat.zero_le _) (by omega) (by omega)
        rw [hT, Nat.zero_mul, List.drop_zero, Nat.mul_one] at h
        rw [show u8s (p.take 32) = (u8s p).take 32 by simp [u8s]]
        exact h)
      have q1 : ∀ W, (Instr.slice 74 (.slice A 40 cap) (some (.int .i64 32)) none none).run Tryz.prog W = .ok (.slice AD 8 cD) W := fun W => by
        rw [← hD]
        exact (run_slice_l (P := Tryz.prog) (w := W) 74 A 40 cap (by kernel_rfl) .i64 32 (by omega) (by omega)).trans (by kernel_rfl)
      have q2 : ∀ W, (Instr.slice 74 (.slice A 40 cap) none (some (.int .i64 32)) none).run Tryz.prog W = .ok (.slice AT 32 cT) W := fun W => by
        rw [← hT]
        exact (run_slice_h (P := Tryz.prog) (w := W) 74 A 40 cap (by kernel_rfl) .i64 32 (by omega) (by omega)).trans (by kernel_rfl)
      clear hD hT hs2 hsp HS
      have HNUM := jz (ref01_number (.slice AD 8 cD) (p.drop 32) false 8 w2 HSD.out (fun c hc => HBP.out c (List.mem_of_mem_drop hc)) (by omega) (by omega) (by rw [HSP.out.2]; omega))
      clear h40
      go_wp2_with (refine bld 189 _ rfl rfl rfl (builtRdr AD 8 cD) ?_)
      refine HNUM.out.mono ?_
      rintro e w3 ⟨hb3, ⟨hf, _⟩ | ⟨_, _, v2, rfl, hs3⟩⟩
      · rcases hf with h | h
        · cases h
        · rw [HSP.out.2] at h; omega
      obtain ⟨B, c, rfl, _⟩ := id hs3
      obtain ⟨X, hX⟩ : ∃ X, X = beN (p.drop 32) := ⟨_, rfl⟩
      have hX2 : beN ((p.drop 32).take 8) = X := by rw [hX, List.take_of_length_le (by rw [HSP.out.2]; omega)]
      have hXlt : X < 18446744073709551616 := by
        rw [hX]
        have := beN_lt (p.drop 32) (fun c hc => HBP.out c (List.mem_of_mem_drop hc))
        rw [HSP.out.2] at this
        exact this
      rw [hX2]
      have HXX := Lib.hid hX
      have HXL := Lib.hid hXlt
      obtain ⟨T, hT⟩ : ∃ T, IntKind.i64.wrap (X : Int) = T := ⟨_, rfl⟩
      have hT64 : isI64 T := by rw [← hT]; unfold IntKind.wrap isI64; simp only [IntKind.signed, IntKind.bits]; simp; omega
      have HTX : Hid (rightE (p.take 32, T) = decide (X ≤ 4611686018427387904)) := jz (by
        unfold rightE
        rw [← hT]
        simp only
        by_cases h : X ≤ 4611686018427387904
        · rw [IntWalk.i64_in _ (by omega)]; simp; omega
        · rw [decide_eq_false h]
          unfold IntKind.wrap
          simp only [IntKind.signed, IntKind.bits]
          simp
          omega)
      have HTV : Hid (X ≤ 4611686018427387904 → T = X) := jz (fun h => by rw [← hT]; exact IntWalk.i64_in _ (by omega))
      have HZ3 := jz (HZ2.out.keep hb3)
      have HW3 := jz (bstep HW2.out hb3)
      have HST3 := jz (HST.out.below hb3)
      have hlt3 : w.heap.size + 2 ≤ w3.heap.size := by have := hb3.size; omega
      have hone : (#[Value.slice B (p.drop 32 |>.drop 8).length c, .bool false] : Array Value).all (·.oneCell') = true := rdr_one _ _ _ _
      obtain ⟨n8, hn8⟩ : ∃ n8, n8 = (p.drop 32 |>.drop 8).length := ⟨_, rfl⟩
      rw [← hn8] at hone ⊢
      clear hn8 hb3 hs3 HZ2 HW2 HST HSD HNUM hX hX2 hXlt q1
      go_upto_region 5 with (first
        | (refine al 189 rdrZ rfl rfl zeroRdr ?_)
        | (refine stNew (cells := #[.slice B n8 c, .bool false]) 189 (.tmp 8) (.tmp 30) rfl rfl rfl rfl rdrI rfl hone ?_; intro w4 hB4 hb4 hs4))
      have HZ4 := jz (HZ3.out.keep hb4)
      have HW4 := jz (bstep HW3.out hb4)
      have HST4 := jz (HST3.out.below hb4)
      have hlt4 : w.heap.size + 2 ≤ w4.heap.size := by have := hb4.size; omega
      clear hB4 hb4 hs4 HZ3 HW3 HST3
      obtain ⟨d, hd⟩ : ∃ d, d = p.take 32 := ⟨_, rfl⟩
      have hdl : d.length = 32 := by rw [hd]; exact HSP.out.1
      have hdb : Bys d := by rw [hd]; exact fun c hc => HBP.out c (List.mem_of_mem_take hc)
      rw [← hd] at HST4 HTX
      have HD := Lib.hid hd
      obtain ⟨A2, c2, hee, _, _, hx⟩ := id HST4.out
      injection hee with hA2 _ _
      subst hA2
      obtain ⟨b, off, rfl, hcell⟩ := hx (by omega)
      have HRD : Hid (w4.rangeAt b off (u8s d)) := Lib.hid hcell
      have HEO : Hid (EntOk (d, T)) := Lib.hid ⟨⟨hdl, hdb⟩, hT64⟩
      have h33 : (entP (d, T)).length = 33 := entP_length _ HEO.out
      have HU32 : Hid ((Tryz.prog.info? 41).map (·.size) = some (u8s d).length) := jz (by rw [u8s_length, hdl]; kernel_rfl)
      have HBL := jz (built_num d T hdl)
      have hE1 : (entP (d, T)).toArray.all (·.oneCell') = true := entC_one _ _
      have hEi : (Tryz.prog.info? 43).map (·.size) = some (entP (d, T)).toArray.size := by rw [List.size_toArray, h33]; kernel_rfl
      have hEz : zE.size = (entP (d, T)).toArray.size := by rw [hes, List.size_toArray, h33]
      have HRT := jz (fun W => ref_right (d, T) W HEO.out)
      have HEL : Hid ((entP (d, T)).toArray = (entP (d, T)).toArray) := Lib.hid rfl
      obtain ⟨E, hE⟩ : ∃ E, E = (entP (d, T)).toArray := ⟨_, rfl⟩
      rw [← hE] at hE1 hEi hEz HBL HRT
      have HE := Lib.hid hE
      obtain ⟨rb, hrb⟩ : ∃ rb, rb = rightE (d, T) := ⟨_, rfl⟩
      rw [← hrb] at HRT HTX
      clear hd hdl hdb hcell hx h33 hE hrb hT64 HEL
      go_upto_region 6 with (first
        | (refine s2a 41 _ rfl rfl rfl Tryz.underlying41 (by omega) ?_)
        | (refine ld 41 _ rfl rfl rfl HRD.out Tryz.underlying41 rfl HU32.out ?_)
        | (refine bld 43 _ rfl rfl rfl HBL.out ?_)
        | (refine al 43 zE rfl rfl zeroE ?_)
        | (refine stNew (cells := E) 43 (.tmp 10) (.tmp 38) rfl rfl rfl rfl hEi hEz hE1 ?_; intro w5 hB5 hb5 hs5))
      have HB5 : Hid (Blk w5 w4.heap.size 43 E) := Lib.hid hB5
      have HZ5 := jz (HZ4.out.keep hb5)
      have HW5 := jz (bstep HW4.out hb5)
      have hr5 := HB5.out.range
      have HR5 := Lib.hid hr5
      have hEi2 : (Tryz.prog.info? 43).map (·.size) = some E.toList.length := by rw [Array.length_toList]; exact hEi
      clear hB5 hb5 hs5 hr5 HZ4 HW4 HST4 HRD q2 hT
      cases rb with
      | false =>
        have HN : Hid (prsE s = none) := jz (by
          have hx : ¬ X ≤ 4611686018427387904 := of_decide_eq_false HTX.out.symm
          unfold prsE
          rw [HP.out]
          simp only
          rw [if_neg (fun h => hx (by rw [HXX.out]; exact h.2))])
        go_wp2_with (first
          | (refine ld 43 _ rfl rfl rfl HR5.out Tryz.underlying43 rfl hEi2 ?_)
          | (go_at_call 69; refine (HRT.out w5).mono ?_; rintro e w6 ⟨rfl, hb6⟩; have HB6 := Lib.hid hb6; clear hb6)
          | (refine bld 43 _ rfl rfl rfl builtE ?_)
          | (refine stBlk 43 (.tmp 3) (.tmp 42) rfl rfl rfl rfl (HZ5.out.keep HB6.out) hei rfl he1 ?_; intro w7 hB7 hb7 _ _; have HB7 := Lib.hid hB7; have HE7 := Lib.hid hb7; clear hB7 hb7))
        have hr := HB7.out.range
        exact bodyPost_ret (results_cellR_mid rfl _ rfl hr Tryz.underlying43 rfl hei) rfl ⟨(bstep HW5.out HB6.out).trans (HE7.out.mono (by omega)), .inl ⟨HN.out, rfl⟩⟩
      | true =>
        have hx : X ≤ 4611686018427387904 := of_decide_eq_true HTX.out.symm
        have HN : Hid (prsE s = some (g, (d, T))) := jz (by
          unfold prsE
          rw [HP.out]
          simp only
          rw [if_pos ⟨H40.out, by rw [← HXX.out]; exact hx⟩, ← HXX.out, HTV.out hx, HD.out])
        clear hx
        go_upto_region 8 with (first
          | (refine ld 43 _ rfl rfl rfl HR5.out Tryz.underlying43 rfl hEi2 ?_)
          | (go_at_call 69; refine (HRT.out w5).mono ?_; rintro e w6 ⟨rfl, hb6⟩))
        have HB6 : Hid (Blk w6 w4.heap.size 43 E) := jz (HB5.out.keep hb6)
        have HZ6 := jz (HZ5.out.keep hb6)
        have HW6 := jz (bstep HW5.out hb6)
        clear hb6 HB5 HZ5 HW5 HR5
        obtain ⟨wS, hwS⟩ : ∃ wS, wS = w6.drew := ⟨_, rfl⟩
        have HBS : Hid (Blk wS w4.heap.size 43 E) := jz (by rw [hwS]; exact HB6.out)
        have HZS : Hid (Blk wS (w.heap.size + 1) 43 zE) := jz (by rw [hwS]; exact HZ6.out)
        have HWS : Hid (Below w.heap.size w wS) := jz (by rw [hwS]; exact HW6.out.drew)
        have HEO1 : Hid (∀ u ∈ E.toList, u.oneCell' = true) := jz (fun u hu => by have := hE1; rw [Array.all_eq_true_iff_forall_mem] at this; exact this u (by simpa using hu))
        clear HB6 HZ6 HW6
        refine held_start 5 (fun W => Blk W w4.heap.size 43 E) (by kernel_rfl) (by kernel_rfl) (by rw [← hwS]; exact HBS.out) (fun hHeld => ?_)
        rw [← hwS] at hHeld ⊢
        clear hwS
        refine jM 0 (.tmp 5) (some 43) (.int .u32 g) hHeld ?_
        simp only [j1, j2, j3, j4, j5]
        refine jL 1 43 (.tmp 10) (some 44) (cs := E.toList) (fun _ hX => hX.range) Tryz.underlying43 rfl hEi2 hHeld ?_
        simp only [j1, j2, j3, j4, j5]
        refine jT 2 (.assign (.tmp 43)) (some 2) (.int .u32 g) hHeld ?_
        simp only [j1, j2, j3, j4, j5]
        have hoth : ∀ k, k ≠ w.heap.size + 1 → (wS.setCells (w.heap.size + 1) 0 E.toList).heap[k]? = wS.heap[k]? := fun k hk => setCells_other hk _ _ _
        refine jW [3] ?_
        refine jR 3 43 (.tmp 3) (.tmp 44) none (cs := E.toList) (there_all HZS.out (by rw [hEz, Array.length_toList])) hEi2 HEO1.out ((hoth _ (by omega)).trans HBS.out) ?_ jN
        simp only [j1, j2, j3, j4, j5]
        refine jW [4] ?_
        refine jS 4 (.assign (.const (.bool true))) (some 4) (.bool true) (wS.setCells (w.heap.size + 1) 0 E.toList) ((hoth _ (by omega)).trans HBS.out) ?_ jN
        simp only [j1, j2, j3, j4, j5]
        refine wpAnyH_done (by kernel_rfl) ?_ _
        have HBZ : Hid (Blk (wS.setCells (w.heap.size + 1) 0 E.toList) (w.heap.size + 1) 43 E) := jz (by have h := Blk.setAll E.toList HZS.out (by rw [hEz, Array.length_toList]); rw [Array.toArray_toList] at h; exact h)
        have HBW : Hid (Below w.heap.size w (wS.setCells (w.heap.size + 1) 0 E.toList)) := jz (HWS.out.trans (setCells_below (by omega) _ _ _).1)
        obtain ⟨wz, hwz⟩ : ∃ wz, wz = (wS.setCells (w.heap.size + 1) 0 E.toList) := ⟨_, rfl⟩
        rw [← hwz] at HBZ HBW ⊢
        clear hwz hoth hHeld
        go_wp2_with fail
        have hr7 := HBZ.out.range
        exact bodyPost_ret (results_cellR_mid rfl _ rfl hr7 Tryz.underlying43 rfl hEi2) rfl ⟨HBW.out, .inr ⟨g, _, HN.out, by rw [← HE.out]; rfl⟩⟩
end Go.Proofs.YtillkpjflcgkeaaGreat
