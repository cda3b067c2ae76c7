import Derived.Test.YtillkpjflcgkeaaGreatMT23
set_option linter.unusedSimpArgs false
set_option maxRecDepth 100000
namespace Go.Proofs.YtillkpjflcgkeaaGreat
open Go.RowKit
attribute [local irreducible] wpQuiet wpAnyH
def rdrZ : Array Value := #[.slice none 0 0, .bool false]
def rdrF : Array Value := #[.slice none 0 0, .bool true]
theorem zeroRdr : ∀ w, (zeroValue 189).run Tryz.prog w = .ok (.agg rdrZ) w := fun w => by unfold rdrZ; kernel_rfl
theorem rdrI : (Tryz.prog.info? 189).map (·.size) = some 2 := by kernel_rfl
theorem builtRdr (A : Option Addr) (n cap : Nat) : Tryz.prog.built 189 [(0, .slice A n cap)] = some #[.slice A n cap, .bool false] := by kernel_rfl
theorem rdr_one (A : Option Addr) (n cap : Nat) (b : Bool) : (#[Value.slice A n cap, .bool b] : Array Value).all (·.oneCell') = true := by
 cases b <;> simp [Value.oneCell']
theorem builtRdrF : Tryz.prog.built 189 [(1, .bool true)] = some rdrF := by unfold rdrF; kernel_rfl
theorem ref01_fail (w : World) : Calls Tryz.prog 112 #[] w fun e w' => e = .returned (.agg rdrF) ∧ Below w.heap.size w w' := by
 have HB0 : Hid (Blk (w.alloc (.cells rdrZ 189)) w.heap.size 189 rdrZ) := jz (Blk.new w _ _)
 have HA0 : Hid (Below w.heap.size w (w.alloc (.cells rdrZ 189))) := jz (bel1 _ _)
 have h1 : rdrF.all (·.oneCell') = true := rdr_one _ _ _ _
 go_enter Tryz.func112, Tryz.ntmps112
 go_wp2_with (first
  | (refine al 189 rdrZ rfl rfl zeroRdr ?_)
  | (refine bld 189 #[(1, .const (.bool true))] rfl rfl rfl builtRdrF ?_)
  | (refine stBlk (cells := rdrF) 189 (.tmp 0) (.tmp 1) rfl rfl rfl rfl HB0.out rdrI rfl h1 ?_; intro w4 hB4 hb4 ho4 hs4; have HB4 := Lib.hid hB4; have HE4 := Lib.hid hb4; clear hB4 hb4 ho4 hs4))
 exact bodyPost_ret (results_cell_row rfl _ _ w.heap.size 189 _ (0, 0) _ rfl HB4.out Tryz.underlying189 rfl rdrI) rfl ⟨rfl, HA0.out.trans HE4.out⟩
set_option maxHeartbeats 2000000 in
theorem ref01_take (v : Value) (xs : List Int) (bad : Bool) (n : Int) (w : World) (hs : Sn w 1 v xs.length (u8s xs)) (hn : isI64 n) (hl : xs.length ≤ 1000000000) :
    Calls Tryz.prog 113 #[.agg #[v, .bool bad], .int .i64 n] w fun e w' => Below w.heap.size w w' ∧
      (((bad = true ∨ n < 0 ∨ (xs.length : Int) < n) ∧ e = .returned (.tuple #[.agg rdrF, .slice none 0 0])) ∨
       (∃ m v2 v3, bad = false ∧ n = (m : Nat) ∧ m ≤ xs.length ∧ e = .returned (.tuple #[.agg #[v2, .bool false], v3]) ∧ Sn w' 1 v2 (xs.drop m).length (u8s (xs.drop m)) ∧ w'.ownsRow w.heap.size 5 1 v3 m (u8s (xs.take m)))) := by
  obtain ⟨A, cap, rfl, hcap, _, _⟩ := id hs
  have a1 : -9223372036854775808 ≤ n := hn.1
  have a2 : n ≤ 9223372036854775807 := hn.2
  have hl0 : (xs.length : Int) ≤ 1000000000 := by omega
  obtain ⟨w1, hw1⟩ : ∃ w1, w1 = (w.alloc (.cells #[.slice A xs.length cap, .bool bad] 189)).alloc (.cells rdrZ 189) := ⟨_, rfl⟩
  have hA1 : Blk w1 w.heap.size 189 #[.slice A xs.length cap, .bool bad] := by rw [hw1]; exact (Blk.new _ _ _).alloc _
  have hB1 : Blk w1 (w.heap.size + 1) 189 rdrZ := by rw [hw1]; exact Blk.newAt _ _ _ _ (by simp)
  have hb1 : Below w.heap.size w w1 := by rw [hw1]; exact bstep (bel1 _ _) (bel1 _ _)
  have hsz1 : w1.heap.size = w.heap.size + 2 := by rw [hw1]; simp
  have hc0 := hA1.cell 0
  have hc1 := hA1.cell 1
  simp only [List.getElem?_toArray, List.getElem?_cons_zero, List.getElem?_cons_succ] at hc0 hc1
  have HA1 := Lib.hid hA1
  have HB1 := Lib.hid hB1
  have HW1 := Lib.hid hb1
  have HS := Lib.hid hs
  have h1 : rdrF.all (·.oneCell') = true := rdr_one _ _ _ _
  have HCAP := Lib.hid hcap
  clear hA1 hB1 hb1 hs hn hcap
  by_cases hf : bad = true ∨ n < 0 ∨ (xs.length : Int) < n
  · have HF := Lib.hid hf
    have hf3 : bad = true ∨ (bad = false ∧ n < 0) ∨ (bad = false ∧ 0 ≤ n ∧ (xs.length : Int) < n) := by
      cases bad
      · rcases hf with h | h | h
        · cases h
        · exact .inr (.inl ⟨rfl, h⟩)
        · exact .inr (.inr ⟨rfl, by omega, h⟩)
      · exact .inl rfl
    clear hf
    rcases hf3 with rfl | ⟨rfl, t1⟩ | ⟨rfl, t1, t2⟩
    all_goals
      go_enter Tryz.func113, Tryz.ntmps113
      go_upto_region 1 with (refine al 189 rdrZ rfl rfl zeroRdr ?_)
      rw [← hw1]
      clear hw1
      go_wp2_with (first
        | (go_at_call 112; refine (ref01_fail w1).mono ?_; rintro e w2 ⟨rfl, hb2⟩; have HB2 := Lib.hid hb2; clear hb2)
        | (refine stBlk (cells := rdrF) 189 (.tmp 4) (.tmp 19) rfl rfl rfl rfl (HB1.out.keep HB2.out) rdrI rfl h1 ?_; intro w4 hB4 hb4 ho4 hs4; have HB4 := Lib.hid hB4; have HE4 := Lib.hid hb4; clear hB4 hb4 ho4 hs4))
      have hr4 := HB4.out.range
      exact bodyPost_ret (results_cell1 rfl _ rfl hr4 Tryz.underlying189 rfl rdrI) rfl ⟨(bstep HW1.out HB2.out).trans (HE4.out.mono (by omega)), .inl ⟨HF.out, rfl⟩⟩
  · obtain ⟨m, rfl⟩ := Int.eq_ofNat_of_zero_le (show 0 ≤ n from by simp only [not_or] at hf; omega)
    obtain ⟨rfl, hm⟩ : bad = false ∧ m ≤ xs.length := by
      simp only [not_or] at hf
      exact ⟨by cases bad <;> simp_all, by omega⟩
    have t1 : ¬ ((m : Int) < 0) := by omega
    have t2 : decide (xs.length < m) = false := decide_eq_false (by omega)
    clear hf
    go_enter Tryz.func113, Tryz.ntmps113
    go_upto_region 1 with (refine al 189 rdrZ rfl rfl zeroRdr ?_)
    rw [← hw1]
    clear hw1
    go_upto_region 3 with fail
    clear t1 t2 hc0 hc1
    obtain ⟨wS, hwS⟩ : ∃ wS, wS = w1.drew := ⟨_, rfl⟩
    have HR0 : Hid (Below wS.heap.size wS wS) := jz (Below.refl _ _)
    have HWS : Hid (Below w.heap.size w wS) := jz (by rw [hwS]; exact HW1.out.drew)
    have HAS : Hid (∀ W, Below wS.heap.size wS W → Blk W w.heap.size 189 #[.slice A xs.length cap, .bool false]) := jz (fun W hb => (HA1.out.keep (by rw [hwS]; exact (Below.refl _ _).drew)).keep hb)
    have HBS : Hid (∀ W, Below wS.heap.size wS W → Blk W (w.heap.size + 1) 189 rdrZ) := jz (fun W hb => (HB1.out.keep (by rw [hwS]; exact (Below.refl _ _).drew)).keep hb)
    have HSS : Hid (∀ W, Below wS.heap.size wS W → Sn W 1 (.slice A xs.length cap) xs.length (u8s xs)) := jz (fun W hb => (HS.out.below HWS.out).below hb)
    have HC0 : Hid (∀ W, Blk W w.heap.size 189 #[.slice A xs.length cap, .bool false] → W.cell? ⟨w.heap.size, 0, none⟩ = some (.slice A xs.length cap)) := jz (fun W h => by have := h.cell 0; simpa using this)
    have hcap := HCAP.out
    have HT : Hid (u8s (xs.take m) = (u8s xs).take m ∧ u8s (xs.drop m) = (u8s xs).drop m ∧ (xs.drop m).length = xs.length - m) := Lib.hid ⟨by simp [u8s], by simp [u8s], by simp⟩
    have HTK : Hid (∀ W, Below wS.heap.size wS W → Sn W 1 (sliced A 0 m cap 1) m (u8s (xs.take m))) := jz (fun W hb => by
      have := (HSS.out W hb).sliced 0 m cap (Nat.zero_le _) hm (by omega)
      rw [Nat.zero_mul, List.drop_zero, Nat.mul_one, ← HT.out.1] at this
      exact this)
    have HDR : Hid (∀ W, Sn W 1 (.slice A xs.length cap) xs.length (u8s xs) → Sn W 1 (sliced A m xs.length cap 1) (xs.drop m).length (u8s (xs.drop m))) := jz (fun W h => by
      have := h.sliced m xs.length cap hm (Nat.le_refl _) hcap
      rw [Nat.mul_one, Nat.mul_one, List.take_of_length_le (by rw [u8s_length]; exact Nat.le_refl _), ← HT.out.2.1] at this
      rw [HT.out.2.2]
      exact this)
    obtain ⟨AD, cD, hD⟩ : ∃ AD cD, sliced A m xs.length cap 1 = .slice AD (xs.length - m) cD := ⟨_, _, rfl⟩
    obtain ⟨AT, cT, hT⟩ : ∃ AT cT, sliced A 0 m cap 1 = .slice AT m cT := ⟨_, _, rfl⟩
    have HSL1 : Hid (∀ W, (Instr.slice 74 (.slice A xs.length cap) (some (.int .i64 (m : Int))) none none).run Tryz.prog W = .ok (.slice AD (xs.length - m) cD) W) := jz (fun W => by
      rw [← hD]
      exact (run_slice_l (P := Tryz.prog) (w := W) 74 A xs.length cap (by kernel_rfl) .i64 m (by omega) (by omega)).trans (by kernel_rfl))
    have HSL2 : Hid (∀ W, (Instr.slice 74 (.slice A xs.length cap) none (some (.int .i64 (m : Int))) none).run Tryz.prog W = .ok (.slice AT m cT) W) := jz (fun W => by
      rw [← hT]
      exact (run_slice_h (P := Tryz.prog) (w := W) 74 A xs.length cap (by kernel_rfl) .i64 m (by omega) (by omega)).trans (by kernel_rfl))
    rw [hD] at HDR
    rw [hT] at HTK
    clear hD hT
    refine held_start 13 (fun W => Blk W w.heap.size 189 #[.slice A xs.length cap, .bool false]) (by kernel_rfl) (by kernel_rfl) (by rw [← hwS]; exact HAS.out _ HR0.out) (fun hHeld => ?_)
    rw [← hwS] at hHeld ⊢
    clear hwS
    have hSS : ∀ W : World, Below wS.heap.size wS W → Blk (W.setCells (w.heap.size + 1) 0 [.slice AD (xs.length - m) cD, .bool false]) w.heap.size 189 #[.slice A xs.length cap, .bool false] := fun W hb => (setCells_other (by omega) _ _ _).trans (HAS.out W hb)
    refine jT 0 (.fieldAddr 189 (.tmp 2) 0) (some 20) (.pointer (some ⟨w.heap.size, 0, none⟩)) hHeld ?_
    simp only [j1, j2, j3, j4, j5]
    refine jT 1 (.load 74 (.tmp 20)) (some 21) (.slice A xs.length cap) (hy := fun o ho wX hX => by have hq := HC0.out wX hX; unfold execOp; simp only [ho]; go_simp) hHeld ?_
    simp only [j1, j2, j3, j4, j5]
    refine jM 2 (.tmp 1) (some 22) (.int .i64 (m : Int)) hHeld ?_
    simp only [j1, j2, j3, j4, j5]
    refine jT 3 (.slice 74 (.tmp 21) (some (.tmp 22)) none none) (some 23) (.slice AD (xs.length - m) cD) (hy := fun o ho wX hX => by have hq := HSL1.out wX; unfold execOp; simp only [ho]; go_simp) hHeld ?_
    simp only [j1, j2, j3, j4, j5]
    refine hBuildM 4 189 #[(0, .tmp 23)] (some 24) (vs := [(0, .slice AD (xs.length - m) cD)]) (cells := #[.slice AD (xs.length - m) cD, .bool false]) (by kernel_rfl) (by kernel_rfl) (by kernel_rfl) (by kernel_rfl) (by kernel_rfl) (fun _ _ _ h => h) (by rfl) (builtRdr _ _ _) hHeld ?_
    simp only [j1, j2, j3, j4, j5]
    refine jT 6 (.fieldAddr 189 (.tmp 2) 0) (some 26) (.pointer (some ⟨w.heap.size, 0, none⟩)) hHeld ?_
    simp only [j1, j2, j3, j4, j5]
    refine jT 7 (.load 74 (.tmp 26)) (some 27) (.slice A xs.length cap) (hy := fun o ho wX hX => by have hq := HC0.out wX hX; unfold execOp; simp only [ho]; go_simp) hHeld ?_
    simp only [j1, j2, j3, j4, j5]
    refine jM 8 (.tmp 1) (some 28) (.int .i64 (m : Int)) hHeld ?_
    simp only [j1, j2, j3, j4, j5]
    refine jT 9 (.slice 74 (.tmp 27) none (some (.tmp 28)) none) (some 29) (.slice AT m cT) (hy := fun o ho wX hX => by have hq := HSL2.out wX; unfold execOp; simp only [ho]; go_simp) hHeld ?_
    simp only [j1, j2, j3, j4, j5]
    refine jW [5] ?_
    refine jS 5 (.buildSlice 74 0 #[]) (some 25) (.slice (some ⟨wS.heap.size, 0, none⟩) 0 0) (wS.alloc (.cells #[] 5)) (by have HQ := jz (bstep HR0.out (bel1 wS (.cells #[] 5))); exact HAS.out _ HQ.out) ?_ jN
    simp only [j1, j2, j3, j4, j5]
    obtain ⟨wq1, hw1⟩ : ∃ W, W = wS.alloc (.cells #[] 5) := ⟨_, rfl⟩
    have hB1 : Below wS.heap.size wS wq1 := by rw [hw1]; exact bel1 _ _
    have HB1 := jz (bstep HR0.out hB1)
    have HO1 : Hid (wq1.ownsRow wS.heap.size 5 1 (.slice (some ⟨wS.heap.size, 0, none⟩) 0 0) 0 []) := jz (by rw [hw1]; exact own_new wS #[] 5 1 0 wS.heap.size _ HR0.out.size rfl (by decide) rfl)
    rw [← hw1]
    clear hw1
    have hHeld := HAS.out _ HB1.out
    refine jW [10] ?_
    refine rAppR 10 tByt (.tmp 25) (.tmp 29) (some 30) (by kernel_rfl) (by kernel_rfl) (by rfl) HO1.out (by rfl) (HTK.out _ HB1.out) (u8s_mem _) (by unfold maxLen; omega) (by omega) HB1.out.size (fun v2 wq2 hown hgrow _ => ?_) jN
    rw [List.nil_append, Nat.zero_add] at hown
    obtain ⟨a2, c2, hv2, _, _⟩ := own_snD hown
    subst hv2
    have HO2 := Lib.hid hown
    have HB2 : Hid (Below wS.heap.size wS wq2) := jz (HB1.out.grown hgrow HB1.out.size (fun g hg => (HO1.out.lt g hg).1))
    clear hown hgrow
    refine ⟨HAS.out _ HB2.out, fun hHeld => ?_⟩
    simp only [j1, j2, j3, j4, j5]
    refine jW [11] ?_
    refine jR 11 189 (.tmp 4) (.tmp 24) none (cs := [.slice AD (xs.length - m) cD, .bool false]) (there_all (HBS.out _ HB2.out) rfl) rdrI (by intro u hu; simp only [List.mem_cons, List.not_mem_nil, or_false] at hu; rcases hu with rfl | rfl <;> rfl) (hSS wq2 HB2.out) ?_ jN
    simp only [j1, j2, j3, j4, j5]
    have hHeld := hSS wq2 HB2.out
    refine jT 12 (.assign (.tmp 30)) (some 5) (.slice a2 m c2) hHeld ?_
    simp only [j1, j2, j3, j4, j5]
    refine wpAnyH_done (by kernel_rfl) ?_ _
    have HBZ : Hid (Blk (wq2.setCells (w.heap.size + 1) 0 [.slice AD (xs.length - m) cD, .bool false]) (w.heap.size + 1) 189 #[.slice AD (xs.length - m) cD, .bool false]) := jz (Blk.setAll _ (HBS.out _ HB2.out) rfl)
    have hoth : ∀ k, k ≠ w.heap.size + 1 → (wq2.setCells (w.heap.size + 1) 0 [.slice AD (xs.length - m) cD, .bool false]).heap[k]? = wq2.heap[k]? := fun k hk => setCells_other hk _ _ _
    have HBW : Hid (Below w.heap.size w (wq2.setCells (w.heap.size + 1) 0 [.slice AD (xs.length - m) cD, .bool false])) := jz ((bstep HWS.out HB2.out).trans (setCells_below (by omega) _ _ _).1)
    have hlt := (HBS.out _ HR0.out).lt
    have HOZ := jz (own_blk (w' := (wq2.setCells (w.heap.size + 1) 0 [.slice AD (xs.length - m) cD, .bool false])) HO2.out (fun b hb => hoth b (by have := (World.ownsRow.lt HO2.out b hb).1; omega)))
    have HDZ := jz (HDR.out (wq2.setCells (w.heap.size + 1) 0 [.slice AD (xs.length - m) cD, .bool false]) ((HS.out.below HBW.out)))
    obtain ⟨wz, hwz⟩ : ∃ wz, wz = (wq2.setCells (w.heap.size + 1) 0 [.slice AD (xs.length - m) cD, .bool false]) := ⟨_, rfl⟩
    rw [← hwz] at HBZ HBW HOZ HDZ ⊢
    clear hwz hoth hHeld
    go_wp2_with fail
    have hr7 := HBZ.out.range
    exact bodyPost_ret (results_cell1 rfl _ rfl hr7 Tryz.underlying189 rfl rdrI) rfl ⟨HBW.out, .inr ⟨m, _, _, by trivial, by trivial, hm, rfl, HDZ.out, own_base HOZ.out HWS.out.size⟩⟩
set_option maxHeartbeats 2000000 in
theorem ref01_number (v : Value) (xs : List Int) (bad : Bool) (k : Nat) (w : World) (hs : Sn w 1 v xs.length (u8s xs)) (hb : Bys xs) (hk1 : 1 ≤ k) (hk8 : k ≤ 8) (hl : xs.length ≤ 1000000000) :
    Calls Tryz.prog 107 #[.agg #[v, .bool bad], .int .i64 k] w fun e w' => Below w.heap.size w w' ∧
      (((bad = true ∨ xs.length < k) ∧ e = .returned (.tuple #[.agg rdrF, .int .u64 0])) ∨
       (bad = false ∧ k ≤ xs.length ∧ ∃ v2, e = .returned (.tuple #[.agg #[v2, .bool false], .int .u64 (beN (xs.take k))]) ∧ Sn w' 1 v2 (xs.drop k).length (u8s (xs.drop k)))) := by
  obtain ⟨A, cap, rfl, hcap, _, _⟩ := id hs
  obtain ⟨w1, hw1⟩ : ∃ w1, w1 = (w.alloc (.cells #[.slice A xs.length cap, .bool bad] 189)).alloc (.cells rdrZ 189) := ⟨_, rfl⟩
  have hA1 : Blk w1 w.heap.size 189 #[.slice A xs.length cap, .bool bad] := by rw [hw1]; exact (Blk.new _ _ _).alloc _
  have hB1 : Blk w1 (w.heap.size + 1) 189 rdrZ := by rw [hw1]; exact Blk.newAt _ _ _ _ (by simp)
  have hb1 : Below w.heap.size w w1 := by rw [hw1]; exact bstep (bel1 _ _) (bel1 _ _)
  have hsz1 : w1.heap.size = w.heap.size + 2 := by rw [hw1]; simp
  have hr1 := hA1.range
  have HR1 := Lib.hid hr1
  have HB1 := Lib.hid hB1
  have HW1 := Lib.hid hb1
  have HTK := jz (ref01_take (.slice A xs.length cap) xs bad k w1 (hs.below hb1) ⟨by omega, by omega⟩ hl)
  have HBY := Lib.hid hb
  have h1 : (1 : Int) ≤ k := by omega
  have h8 : (k : Int) ≤ 8 := by omega
  clear hA1 hB1 hb1 hs hr1 hb hcap
  go_enter Tryz.func107, Tryz.ntmps107
  go_upto_region 1 with (refine al 189 rdrZ rfl rfl zeroRdr ?_)
  rw [← hw1]
  clear hw1
  go_wp2_with (refine ld 189 _ rfl rfl rfl HR1.out Tryz.underlying189 rfl rdrI ?_)
  refine HTK.out.mono ?_
  rintro e w2 ⟨hb2, hres⟩
  have hu : ∃ (B : Option Addr) (n c : Nat) (b : Bool) (ys : List Int) (B3 : Option Addr) (c3 : Nat), e = .returned (.tuple #[.agg #[.slice B n c, .bool b], .slice B3 ys.length c3]) ∧ Sn w2 1 (.slice B3 ys.length c3) ys.length (u8s ys) ∧ ys.length ≤ 8 ∧ Bys ys ∧
      (((bad = true ∨ xs.length < k) ∧ B = none ∧ n = 0 ∧ c = 0 ∧ b = true ∧ ys = []) ∨ (bad = false ∧ k ≤ xs.length ∧ b = false ∧ ys = xs.take k ∧ n = (xs.drop k).length ∧ Sn w2 1 (.slice B n c) (xs.drop k).length (u8s (xs.drop k)))) := by
    rcases hres with ⟨hf, rfl⟩ | ⟨m, v2, v3, h1, h2, h3, rfl, h4, h5⟩
    · exact ⟨none, 0, 0, true, [], none, 0, rfl, Sn.nil _ _, by simp, (fun c hc => by cases hc), .inl ⟨hf.imp id (fun h => h.elim (fun h => absurd h (by omega)) (fun h => by omega)), rfl, rfl, rfl, rfl, rfl⟩⟩
    · obtain rfl : k = m := by omega
      obtain ⟨B, c, rfl, _⟩ := id h4
      obtain ⟨B3, c3, rfl, hsn, _⟩ := own_snD h5
      have hlen : (xs.take k).length = k := by rw [List.length_take]; omega
      refine ⟨B, (xs.drop k).length, c, false, xs.take k, B3, c3, by rw [hlen], by rw [hlen]; exact hsn, by omega, fun c hc => HBY.out c (List.mem_of_mem_take hc), .inr ⟨h1, h3, rfl, rfl, rfl, h4⟩⟩
  obtain ⟨B, n, c, b, ys, B3, c3, rfl, hsy, hyl, hyb, hfin⟩ := hu
  have HFIN := Lib.hid hfin
  have HSY := Lib.hid hsy
  have HYB := Lib.hid hyb
  have HB2 := Lib.hid hb2
  have hone : (#[Value.slice B n c, .bool b] : Array Value).all (·.oneCell') = true := rdr_one _ _ _ _
  clear hres hfin hsy hyb hb2 HR1
  go_upto_region 4 with (first
    | (refine al 189 rdrZ rfl rfl zeroRdr ?_)
    | (refine stNew (cells := #[.slice B n c, .bool b]) 189 (.tmp 6) (.tmp 21) rfl rfl rfl rfl rdrI rfl hone ?_; intro w3 hB3 hb3 hs3))
  have hlt2 : w.heap.size + 2 ≤ w2.heap.size := by have := HB2.out.size; omega
  have HB3 : Hid (Blk w3 w2.heap.size 189 #[.slice B n c, .bool b]) := Lib.hid hB3
  have HZ3 : Hid (Blk w3 (w.heap.size + 1) 189 rdrZ) := jz (((HB1.out.keep HB2.out)).keep hb3)
  have HW3 : Hid (Below w.heap.size w w3) := jz (bstep (bstep HW1.out HB2.out) hb3)
  have HE3 := Lib.hid hb3
  have HS3 : Hid (Sn w3 1 (.slice B3 ys.length c3) ys.length (u8s ys)) := jz (HSY.out.below hb3)
  clear hB3 hb3 hs3 HB1 HW1 HSY
  have hyl8 : (ys.length : Int) ≤ 8 := by omega
  go_wp2_with fail
  go_loopw [8, 9] (fun x i wr => ∃ j : Nat, wr = w3 ∧ j ≤ ys.length ∧ i = .int .i64 (j : Int) ∧ x = .int .u64 (beN (ys.take j) : Int)) (fun _ i _ => ys.length - (intOf i).toNat)
  case atStart => exact ⟨0, rfl, Nat.zero_le _, rfl, rfl⟩
  case round =>
    obtain ⟨j, rfl, hj, rfl, rfl⟩ := hrel
    rcases Nat.lt_or_ge j ys.length with hlt | hge
    · obtain ⟨q, off, rfl, hr⟩ := HS3.out.range j hlt
      have hc : ∃ cc : Nat, cc < 256 ∧ ys[j] = (cc : Int) := by
        have := HYB.out ys[j] (List.getElem_mem hlt)
        exact ⟨ys[j].toNat, by omega, by omega⟩
      obtain ⟨cc, hc1, hc2⟩ := hc
      have e0 : wr.cell? ⟨q, off + j, none⟩ = some (.int .u8 (cc : Int)) := by
        have := hr 0 (.int .u8 (cc : Int)) (by simp [u8s, hlt, ← hc2])
        rw [Nat.mul_one] at this
        exact this
      have HN : Hid (beN (ys.take (j + 1)) = beN (ys.take j) * 256 + cc) := jz (by rw [beN_snoc _ _ hlt, hc2]; rfl)
      have hbd : beN (ys.take j) < 256 ^ 7 := by
        have h := beN_lt (ys.take j) (fun c hc => HYB.out c (List.mem_of_mem_take hc))
        rw [List.length_take, Nat.min_eq_left (by omega)] at h
        exact Nat.lt_of_lt_of_le h (Nat.pow_le_pow_right (by decide) (by omega))
      obtain ⟨X, hX⟩ : ∃ X, X = beN (ys.take j) := ⟨_, rfl⟩
      rw [← hX] at HN hbd ⊢
      have hX0 : (0 : Int) ≤ X := by omega
      have hX1 : (X : Int) ≤ 72057594037927935 := by omega
      have hi0 : (0 : Int) ≤ j := by omega
      have hi1 : (j : Int) < ys.length := by omega
      have hcc : (cc : Int) ≤ 255 := by omega
      clear hr hc2 hX hbd
      go_wp2_with fail
      exact ⟨⟨j + 1, by trivial, by omega, by go_num, by rw [HN.out]; exact congrArg (Value.int .u64) (by omega)⟩, by simp [intOf]; omega⟩
    · obtain rfl : j = ys.length := by omega
      have hr3 := HB3.out.range
      have HR3 := Lib.hid hr3
      have hlt3 : w.heap.size + 1 < w2.heap.size := by omega
      clear hr3
      rw [List.take_length]
      obtain ⟨X, hX⟩ : ∃ X, X = beN ys := ⟨_, rfl⟩
      rw [← hX]
      have HX := Lib.hid hX
      clear hX
      go_wp2_with (first
        | (refine ld 189 _ rfl rfl rfl HR3.out Tryz.underlying189 rfl rdrI ?_)
        | (refine stBlk (cells := #[.slice B n c, .bool b]) 189 (.tmp 4) (.tmp 37) rfl rfl rfl rfl HZ3.out rdrI rfl hone ?_; intro w4 hB4 hb4 ho4 hs4; have HB4 := Lib.hid hB4; have HE4 := Lib.hid hb4; have HO4 := Lib.hid ho4; clear hB4 hb4 ho4 hs4))
      have hr4 := HB4.out.range
      have hbw : Below w.heap.size w w4 := HW3.out.trans (HE4.out.mono (by omega))
      refine bodyPost_ret (results_cell1 rfl _ rfl hr4 Tryz.underlying189 rfl rdrI) rfl ⟨hbw, ?_⟩
      rcases HFIN.out with ⟨h1, rfl, rfl, rfl, rfl, rfl⟩ | ⟨rfl, h2, rfl, rfl, rfl, h6⟩
      · exact .inl ⟨h1, by rw [HX.out]; rfl⟩
      · refine .inr ⟨rfl, h2, _, by rw [HX.out]; rfl, ?_⟩
        have h7 := h6.below HE3.out
        rw [List.length_drop] at h7
        obtain ⟨A6, c6, e6, q1, q2, hx6⟩ := h7
        refine ⟨A6, c6, by rw [List.length_drop]; exact e6, q1, q2, fun hp => ?_⟩
        obtain ⟨g6, o6, rfl, hcell⟩ := hx6 hp
        refine ⟨g6, o6, rfl, fun i u hi => ?_⟩
        have hg : g6 ≠ w.heap.size + 1 := fun e => by
          have hc := hcell i u hi
          rw [e] at hc
          have hz := HZ3.out.cell (o6 + i)
          rw [hz] at hc
          have hu : ∃ z, u = .int .u8 z := by
            unfold u8s at hi
            rw [List.getElem?_map] at hi
            cases hq : (xs.drop k)[i]? with
            | none => rw [hq] at hi; cases hi
            | some z => rw [hq] at hi; exact ⟨z, (Option.some.inj hi).symm⟩
          obtain ⟨z, rfl⟩ := hu
          unfold rdrZ at hc
          generalize o6 + i = o at hc
          match o with
          | 0 => cases hc
          | 1 => cases hc
          | o + 2 => simp at hc
        exact (World.cell?_of_block (a := ⟨g6, o6 + i, none⟩) (HO4.out g6 hg)).trans (hcell i u hi)
end Go.Proofs.YtillkpjflcgkeaaGreat
