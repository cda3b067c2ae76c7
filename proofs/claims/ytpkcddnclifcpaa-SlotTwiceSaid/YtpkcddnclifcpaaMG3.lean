/- Parts: tollref17.Parse. -/
import Derived.Test.YtpkcddnclifcpaaMF15
import Derived.Test.YtpkcddnclifcpaaMF5
import Derived.Test.YtpkcddnclifcpaaMG2
namespace Go.Proofs.Ytpkcddnclifcpaa
open Go.RowKit
attribute [local irreducible] wpQuiet wpAnyH
set_option linter.unusedSimpArgs false

theorem sec_two {s : List Int} (hl : s.length = 64) (hb : Bys s) : ∃ a b : Nat, a < 256 ∧ b < 256 ∧ s[0]? = some (a : Int) ∧ s[1]? = some (b : Int) ∧ beN (s.take 2) = a * 256 + b := by
  obtain ⟨a, ha, ea⟩ := sec_at hl hb 0 (by omega)
  obtain ⟨b, hb', eb⟩ := sec_at hl hb 1 (by omega)
  refine ⟨a, b, ha, hb', ea, eb, ?_⟩
  have e : s.take 2 = [(a : Int), b] := by
    apply List.ext_getElem?
    intro j
    rw [List.getElem?_take]
    match j with
    | 0 => simpa using ea
    | 1 => simpa using eb
    | j + 2 => simp; omega
  rw [e, beN_cons, beN_cons]
  simp only [List.length_cons, List.length_nil, Int.toNat_natCast]
  show _ + (_ + 0) = _
  omega
theorem zeros_all {l : List Int} (h : ∀ c ∈ l, c = 0) : zeros l = true := by
  unfold zeros
  rw [List.all_eq_true]
  exact fun c hc => decide_eq_true (h c hc)
theorem zeros_part {s : List Int} {n : Nat} (hl : s.length = 64) (hn : n ≤ 54) (h : ∀ j, 2 + n ≤ j → j < 56 → s[j]? = some 0) : zeros ((s.drop (2 + n)).take (54 - n)) = true :=
  zeros_all fun c hc => by
    obtain ⟨i, hi, rfl⟩ := List.getElem_of_mem hc
    have hi2 : i < 54 - n := by rw [List.length_take] at hi; omega
    have := h (2 + n + i) (by omega) (by omega)
    rw [List.getElem_take, List.getElem_drop]
    exact Option.some.inj ((List.getElem?_eq_getElem (by omega)).symm.trans this)
theorem zeros_not {s : List Int} {n k : Nat} {c : Int} (h1 : 2 + n ≤ k) (h2 : k < 56) (hk : s[k]? = some c) (hc : c ≠ 0) : zeros ((s.drop (2 + n)).take (54 - n)) = false := by
  unfold zeros
  rw [Bool.eq_false_iff]
  intro ha
  rw [List.all_eq_true] at ha
  refine hc (of_decide_eq_true (ha c ?_))
  refine List.mem_iff_getElem?.2 ⟨k - (2 + n), ?_⟩
  rw [List.getElem?_take_of_lt (by omega), List.getElem?_drop, show 2 + n + (k - (2 + n)) = k by omega]
  exact hk

set_option maxRecDepth 100000 in
set_option maxHeartbeats 4000000 in
theorem ref17_parse (s : List Int) (w : World) (hl : s.length = 64) (hb : Bys s) :
    Calls Try.prog 91 #[.agg (u8s s).toArray] w fun e w' => Below w.heap.size w w' ∧
      ((prs s = none ∧ e = .returned (.tuple #[.int .u32 0, .slice none 0 0, .bool false])) ∨
       (∃ g p v, prs s = some (g, p) ∧ e = .returned (.tuple #[.int .u32 g, v, .bool true]) ∧ Sn w' 1 v p.length (u8s p))) := by
  obtain ⟨w1, hw1⟩ : ∃ w1, w1 = w.alloc (.cells (u8s s).toArray 80) := ⟨_, rfl⟩
  have hB1 : Blk w1 w.heap.size 80 (u8s s).toArray := by rw [hw1]; exact Blk.new _ _ _
  have hb1 : Below w.heap.size w w1 := by rw [hw1]; exact bel1 _ _
  obtain ⟨a, b, ha, hb', ea, eb, hN⟩ := sec_two hl hb
  obtain ⟨c0, c1, c2, c3, hc0, hc1, hc2, hc3, e0, e1, e2, e3, hX⟩ := sec_four hl hb 56 (by omega)
  obtain ⟨N, hNN⟩ : ∃ N, N = beN (s.take 2) := ⟨_, rfl⟩
  obtain ⟨X, hXX⟩ : ∃ X, X = beN ((s.drop 56).take 4) := ⟨_, rfl⟩
  rw [← hNN] at hN
  rw [← hXX] at hX
  have HN := Lib.hid hN
  have HX := Lib.hid hX
  have HNN := Lib.hid hNN
  have HXX := Lib.hid hXX
  have hul : (u8s s).length = 64 := by rw [u8s_length, hl]
  have k0 : w1.cell? ⟨w.heap.size, 0, none⟩ = some (.int .u8 (a : Nat)) := by rw [hB1.cell 0, List.getElem?_toArray]; exact u8s_at ea
  have k1 : w1.cell? ⟨w.heap.size, 1, none⟩ = some (.int .u8 (b : Nat)) := by rw [hB1.cell 1, List.getElem?_toArray]; exact u8s_at eb
  have HB1 := Lib.hid hB1
  have HW1 := Lib.hid hb1
  have HL := Lib.hid hl
  have HBY := Lib.hid hb
  have HUI : Hid ((Try.prog.info? 80).map (·.size) = some (u8s s).length) := Lib.hid (by rw [hul]; kernel_rfl)
  have m0 : w1.cell? ⟨w.heap.size, 56, none⟩ = some (.int .u8 (c0 : Nat)) := by rw [hB1.cell 56, List.getElem?_toArray]; exact u8s_at e0
  have m1 : w1.cell? ⟨w.heap.size, 57, none⟩ = some (.int .u8 (c1 : Nat)) := by rw [hB1.cell 57, List.getElem?_toArray]; exact u8s_at e1
  have m2 : w1.cell? ⟨w.heap.size, 58, none⟩ = some (.int .u8 (c2 : Nat)) := by rw [hB1.cell 58, List.getElem?_toArray]; exact u8s_at e2
  have m3 : w1.cell? ⟨w.heap.size, 59, none⟩ = some (.int .u8 (c3 : Nat)) := by rw [hB1.cell 59, List.getElem?_toArray]; exact u8s_at e3
  clear hN hX hNN hXX ea eb e0 e1 e2 e3 hB1 hb1 hb hl hul
  go_enter Try.func91, Try.ntmps91
  go_upto_region 1 with fail
  rw [← hw1]
  clear hw1
  go_cut [5] from 8 to 16 (fun n wx => n = .int .i64 (N : Int) ∧ wx = w1)
  case first =>
    go_wp2_with fail
    go_meet
    exact ⟨congrArg (Value.int .i64) (by have := HN.out; omega), by trivial⟩
  case rest =>
  obtain ⟨rfl, hwc⟩ := hcut
  rw [hwc]
  clear hwc k0 k1
  go_upto_region 2 with fail
  go_cut [6] from 16 to 34 (fun n wx => n = .int .u32 (X : Int) ∧ wx = w1)
  case first =>
    go_wp2_with fail
    go_meet
    exact ⟨congrArg (Value.int .u32) (by have := HX.out; omega), by trivial⟩
  case rest =>
  obtain ⟨rfl, hwc⟩ := hcut
  rw [hwc]
  clear hwc m0 m1 m2 m3
  have hr1 := HB1.out.range
  rw [List.toList_toArray] at hr1
  have HR1 := Lib.hid hr1
  have HSUM := Lib.hid (ref17_sum s w1 HL.out HBY.out)
  obtain ⟨C, hC⟩ : ∃ C, C = crcSum (s.take 56 ++ s.drop 60) := ⟨_, rfl⟩
  rw [← hC] at HSUM
  have HC := Lib.hid hC
  clear hC hr1
  rcases Bool.eq_false_or_eq_true (decide ((54 : Int) < N)) with t1 | t1
  · have HF : Hid (prs s = none) := Lib.hid (by unfold prs; rw [← HNN.out, if_pos (by have := of_decide_eq_true t1; omega)])
    go_wp2_with fail
    go_ret3
    exact ⟨HW1.out, .inl ⟨HF.out, rfl⟩⟩
  · have hn54 : N ≤ 54 := by have := of_decide_eq_false t1; omega
    rcases Bool.eq_false_or_eq_true ((X : Int) != (C : Int)) with t2 | t2
    · have HF : Hid (prs s = none) := Lib.hid (by
        unfold prs
        rw [← HNN.out, ← HXX.out, ← HC.out, if_neg (by omega)]
        split
        · rfl
        · rw [if_pos (by have : (X : Int) ≠ C := by simpa using t2
                         omega)])
      go_wp2_with (first
        | (refine ld 80 _ rfl rfl rfl HR1.out Try.underlying80 rfl HUI.out ?_)
        | (go_at_call 60; refine HSUM.out.mono ?_; rintro e w2 ⟨rfl, hb2⟩; have HB2 := Lib.hid hb2; clear hb2))
      go_ret3
      exact ⟨bstep HW1.out HB2.out, .inl ⟨HF.out, rfl⟩⟩
    · have HXC : Hid (X = C) := Lib.hid (by have : (X : Int) = C := by simpa using t2
                                            omega)
      go_upto_region 6 with (first
        | (refine ld 80 _ rfl rfl rfl HR1.out Try.underlying80 rfl HUI.out ?_)
        | (go_at_call 60; refine HSUM.out.mono ?_; rintro e w2 ⟨rfl, hb2⟩; have HB2 := Lib.hid hb2; clear hb2))
      have HA2 : Hid (Blk w2 w.heap.size 80 (u8s s).toArray) := Lib.hid (HB1.out.keep HB2.out)
      have HW2 : Hid (Below w.heap.size w w2) := Lib.hid (bstep HW1.out HB2.out)
      clear HB2 HB1 HW1 HR1 HSUM t2
      go_loopw [7] (fun i wr => ∃ k : Nat, 2 + N ≤ k ∧ k ≤ 56 ∧ wr = w2 ∧ i = .int .i64 (k : Int) ∧ Hid (∀ j, 2 + N ≤ j → j < k → s[j]? = some 0)) (fun i _ => 56 - (intOf i).toNat)
      case atStart => exact ⟨2 + N, Nat.le_refl _, by omega, rfl, congrArg (Value.int .i64) (by omega), Lib.hid (fun j h1 h2 => by omega)⟩
      case round =>
        obtain ⟨k, hk1, hk2, rfl, rfl, HZ⟩ := hrel
        rcases Nat.lt_or_ge k 56 with hlt | hge
        · obtain ⟨c, hc, ec⟩ := sec_at HL.out HBY.out k (by omega)
          have kc : wr.cell? ⟨w.heap.size, k, none⟩ = some (.int .u8 (c : Nat)) := by rw [HA2.out.cell k, List.getElem?_toArray]; exact u8s_at ec
          have HEC := Lib.hid ec
          have hi0 : (0 : Int) ≤ k := by omega
          have hi1 : (k : Int) < 56 := by omega
          have hi2 : (k : Int) < 64 := by omega
          clear ec
          rcases Bool.eq_false_or_eq_true ((c : Int) != 0) with t3 | t3
          · have HF : Hid (prs s = none) := Lib.hid (by
              unfold prs
              rw [← HNN.out, if_neg (by omega), zeros_not hk1 hlt HEC.out (by simpa using t3)]
              rfl)
            go_wp2_with fail
            go_ret3
            exact ⟨HW2.out, .inl ⟨HF.out, rfl⟩⟩
          · have hz : (c : Int) = 0 := by simpa using t3
            have HZ2 : Hid (∀ j, 2 + N ≤ j → j < k + 1 → s[j]? = some 0) := Lib.hid (fun j h1 h2 => by
              rcases Nat.lt_or_ge j k with h | h
              · exact HZ.out j h1 h
              · obtain rfl : j = k := by omega
                rw [HEC.out, hz])
            have t4 : ((c : Int) == 0) = true := by simpa using hz
            clear hz
            go_wp2_with fail
            exact ⟨⟨k + 1, by omega, by omega, by trivial, by go_num, HZ2⟩, by simp [intOf]; omega⟩
        · obtain rfl : k = 56 := by omega
          have HF : Hid (prs s = some (beN ((s.drop 60).take 4), (s.drop 2).take N)) := Lib.hid (by
            unfold prs
            rw [← HNN.out, if_neg (by omega), zeros_part HL.out hn54 HZ.out, ← HXX.out, ← HC.out, if_neg (by simp), if_neg (by rw [HXC.out]; simp)])
          have hi1 : ((56 : Nat) : Int) = 56 := rfl
          have hNl : ((s.drop 2).take N).length = N := by rw [List.length_take, List.length_drop, HL.out]; omega
          have HNL := Lib.hid hNl
          obtain ⟨G, hG⟩ : ∃ G, G = beN ((s.drop 60).take 4) := ⟨_, rfl⟩
          have HTG := Lib.hid (fun W => ref17_tag s W HL.out HBY.out)
          rw [← hG] at HTG HF
          clear hG hNl HZ t1
          go_upto_region 10 with fail
          obtain ⟨wS, hwS⟩ : ∃ wS, wS = wr.drew := ⟨_, rfl⟩
          have HAS : Hid (∀ W, Below wS.heap.size wS W → Blk W w.heap.size 80 (u8s s).toArray) := Lib.hid (fun W hb => (HA2.out.keep (by rw [hwS]; exact (Below.refl _ _).drew)).keep hb)
          have HWS : Hid (Below w.heap.size w wS) := Lib.hid (by rw [hwS]; exact HW2.out.drew)
          have HRS : Hid (∀ W, Below wS.heap.size wS W → W.rangeAt w.heap.size 0 (u8s s)) := Lib.hid (fun W hb => by have h := (HAS.out W hb).range; rw [List.toList_toArray] at h; exact h)
          have HSS : Hid (∀ W, Below wS.heap.size wS W → Sn W 1 (.slice (some ⟨w.heap.size, 2, none⟩) N 62) N (u8s ((s.drop 2).take N))) := Lib.hid (fun W hb => Sn.of_blk (HAS.out W hb) 2 N 62 (by rw [HL.out]; omega) (by omega))
          have HR0 : Hid (Below wS.heap.size wS wS) := Lib.hid (Below.refl _ _)
          have hsz : w.heap.size ≤ wS.heap.size := HWS.out.size
          clear HA2 HW2
          refine held_start 10 (fun W => Below wS.heap.size wS W) (by kernel_rfl) (by kernel_rfl) (by rw [← hwS]; exact HR0.out) (fun hHeld => ?_)
          rw [← hwS] at hHeld ⊢
          clear hwS
          refine hLoad 0 80 (Operand.tmp 1) (some 52) (cs := u8s s) (by kernel_rfl) (by kernel_rfl) (by kernel_rfl) (by kernel_rfl) (by kernel_rfl) (fun _ _ _ h => h) (by exact rfl) (fun _ hX => HRS.out _ hX) Try.underlying80 rfl HUI.out hHeld ?_
          simp only [Act.put, List.setIfInBounds_toArray, List.set_cons_zero, List.set_cons_succ]
          refine hMove 3 (Operand.tmp 5) (some 55) (.int .i64 (N : Int)) (by kernel_rfl) (by kernel_rfl) (by kernel_rfl) (by kernel_rfl) (by kernel_rfl) (fun _ _ _ h => h) (by exact rfl) hHeld ?_
          simp only [Act.put, List.setIfInBounds_toArray, List.set_cons_zero, List.set_cons_succ]
          refine hTake 4 (Op.binOp BinOp.add 3 (Operand.const (Value.int IntKind.i64 2)) (Operand.tmp 55) 3) (some 56) (.int .i64 (2 + (N : Int))) (by kernel_rfl) (by kernel_rfl) (by kernel_rfl) (by kernel_rfl) (by kernel_rfl) (fun _ _ _ h => h) (fun o ho wX hX => by unfold execOp; simp only [ho]; go_simp; exact IntWalk.i64_in _ (by omega)) hHeld ?_
          simp only [Act.put, List.setIfInBounds_toArray, List.set_cons_zero, List.set_cons_succ]
          refine hTake 5 (Op.slice 80 (Operand.tmp 1) (some (Operand.const (Value.int IntKind.i64 2))) (some (Operand.tmp 56)) none) (some 57) (.slice (some ⟨w.heap.size, 2, none⟩) N 62) (by kernel_rfl) (by kernel_rfl) (by kernel_rfl) (by kernel_rfl) (by kernel_rfl) (fun _ _ _ h => h) (fun o ho wX hX => by have h2 : ((2 : Int) + N).toNat = 2 + N := (by omega); have h3 : (2 : Int) + N ≤ 64 := (by omega); have h4 : (2 : Int) ≤ 2 + N := (by omega); unfold execOp; simp only [ho]; go_simp) hHeld ?_
          simp only [Act.put, List.setIfInBounds_toArray, List.set_cons_zero, List.set_cons_succ]
          refine wpAnyH_ready (rs := [1, 2]) (by kernel_rfl) (by simp) ?_
          refine rCall 1 (Op.call { callee := Callee.value (Operand.func 96), args := #[Operand.tmp 52], argTypes := #[80] }) (some 53) 96 (#[.agg (u8s s).toArray]) (by kernel_rfl) (by kernel_rfl) (fun o ho => by unfold execOp; simp only [ho]; go_simp) ?_ (rStep 2 (Op.buildSlice 88 0 #[]) (some 54) (.slice (some ⟨wS.heap.size, 0, none⟩) 0 0) (wS.alloc (.cells #[] 5)) (by kernel_rfl) (by kernel_rfl) (fun o ho => by unfold execOp; simp only [ho]; go_simp) (bstep HR0.out (bel1 _ _)) ?_ AllReadyH.nil)
          · refine (HTG.out wS).mono ?_
            rintro e wq1 ⟨rfl, hB1⟩
            have HB1 := Lib.hid (bstep HR0.out hB1)
            refine ⟨_, rfl, HB1.out, fun hHeld => ?_⟩
            simp only [Act.put, List.setIfInBounds_toArray, List.set_cons_zero, List.set_cons_succ]
            refine wpAnyH_ready (rs := [2]) (by kernel_rfl) (by simp) ?_
            refine rStep 2 (Op.buildSlice 88 0 #[]) (some 54) (.slice (some ⟨wq1.heap.size, 0, none⟩) 0 0) (wq1.alloc (.cells #[] 5)) (by kernel_rfl) (by kernel_rfl) (fun o ho => by unfold execOp; simp only [ho]; go_simp) (bstep HB1.out (bel1 _ _)) ?_ AllReadyH.nil
            simp only [Act.put, List.setIfInBounds_toArray, List.set_cons_zero, List.set_cons_succ]
            obtain ⟨wq2, hw2⟩ : ∃ W, W = wq1.alloc (.cells #[] 5) := ⟨_, rfl⟩
            have hB2 : Below wq1.heap.size wq1 wq2 := by rw [hw2]; exact bel1 _ _
            have HB2 := Lib.hid (bstep HB1.out hB2)
            have HO2 : Hid (wq2.ownsRow wS.heap.size 5 1 (.slice (some ⟨wq1.heap.size, 0, none⟩) 0 0) 0 []) := Lib.hid (by rw [hw2]; exact own_new wq1 #[] 5 1 0 wS.heap.size _ HB1.out.size rfl (by decide) rfl)
            rw [← hw2]
            clear hw2
            have hHeld := HB2.out
            refine wpAnyH_ready (rs := [6]) (by kernel_rfl) (by simp) ?_
            refine rAppR 6 tByt (.tmp 54) (.tmp 57) (some 58) (by kernel_rfl) (by kernel_rfl) (by rfl) HO2.out (by rfl) (HSS.out _ HB2.out) (u8s_mem _) (by unfold maxLen; omega) (by omega) HB2.out.size (fun v3 wq3 hown hgrow _ => ?_) AllReadyH.nil
            rw [List.nil_append, Nat.zero_add] at hown
            obtain ⟨a3, c3, hv3, _, _⟩ := own_snD hown
            subst hv3
            have HO3 := Lib.hid hown
            have HB3 : Hid (Below wS.heap.size wS wq3) := Lib.hid (HB2.out.grown hgrow HB2.out.size (fun g hg => (HO2.out.lt g hg).1))
            clear hown hgrow
            refine ⟨HB3.out, fun hHeld => ?_⟩
            simp only [Act.put, List.setIfInBounds_toArray, List.set_cons_zero, List.set_cons_succ]
            refine hTake 7 (Op.assign (Operand.tmp 53)) (some 2) (.int .u32 (G : Int)) (by kernel_rfl) (by kernel_rfl) (by kernel_rfl) (by kernel_rfl) (by kernel_rfl) (fun _ _ _ h => h) (fun o ho wX hX => by unfold execOp; simp only [ho]; go_simp) hHeld ?_
            simp only [Act.put, List.setIfInBounds_toArray, List.set_cons_zero, List.set_cons_succ]
            refine hTake 8 (Op.assign (Operand.tmp 58)) (some 3) (.slice a3 N c3) (by kernel_rfl) (by kernel_rfl) (by kernel_rfl) (by kernel_rfl) (by kernel_rfl) (fun _ _ _ h => h) (fun o ho wX hX => by unfold execOp; simp only [ho]; go_simp) hHeld ?_
            simp only [Act.put, List.setIfInBounds_toArray, List.set_cons_zero, List.set_cons_succ]
            refine hTake 9 (Op.assign (Operand.const (Value.bool true))) (some 4) (.bool true) (by kernel_rfl) (by kernel_rfl) (by kernel_rfl) (by kernel_rfl) (by kernel_rfl) (fun _ _ _ h => h) (fun o ho wX hX => by unfold execOp; simp only [ho]; go_simp) hHeld ?_
            simp only [Act.put, List.setIfInBounds_toArray, List.set_cons_zero, List.set_cons_succ]
            refine wpAnyH_done (by kernel_rfl) ?_ _
            go_wp2_with fail
            go_ret3
            exact ⟨bstep HWS.out HB3.out, .inr ⟨G, (s.drop 2).take N, _, HF.out, rfl, by rw [HNL.out]; exact Sn.own HO3.out⟩⟩
          · simp only [Act.put, List.setIfInBounds_toArray, List.set_cons_zero, List.set_cons_succ]
            obtain ⟨wq4, hw4⟩ : ∃ W, W = wS.alloc (.cells #[] 5) := ⟨_, rfl⟩
            have hB4 : Below wS.heap.size wS wq4 := by rw [hw4]; exact bel1 _ _
            have HB4 := Lib.hid (bstep HR0.out hB4)
            have HO4 : Hid (wq4.ownsRow wS.heap.size 5 1 (.slice (some ⟨wS.heap.size, 0, none⟩) 0 0) 0 []) := Lib.hid (by rw [hw4]; exact own_new wS #[] 5 1 0 wS.heap.size _ HR0.out.size rfl (by decide) rfl)
            rw [← hw4]
            clear hw4
            have hHeld := HB4.out
            refine wpAnyH_ready (rs := [1]) (by kernel_rfl) (by simp) ?_
            refine rCall 1 (Op.call { callee := Callee.value (Operand.func 96), args := #[Operand.tmp 52], argTypes := #[80] }) (some 53) 96 (#[.agg (u8s s).toArray]) (by kernel_rfl) (by kernel_rfl) (fun o ho => by unfold execOp; simp only [ho]; go_simp) ?_ AllReadyH.nil
            refine (HTG.out wq4).mono ?_
            rintro e wq5 ⟨rfl, hB5⟩
            have own_5 := Lib.hid (own_below HO4.out hB5)
            have HB5 := Lib.hid (bstep HB4.out hB5)
            refine ⟨_, rfl, HB5.out, fun hHeld => ?_⟩
            simp only [Act.put, List.setIfInBounds_toArray, List.set_cons_zero, List.set_cons_succ]
            refine wpAnyH_ready (rs := [6]) (by kernel_rfl) (by simp) ?_
            refine rAppR 6 tByt (.tmp 54) (.tmp 57) (some 58) (by kernel_rfl) (by kernel_rfl) (by rfl) own_5.out (by rfl) (HSS.out _ HB5.out) (u8s_mem _) (by unfold maxLen; omega) (by omega) HB5.out.size (fun v6 wq6 hown hgrow _ => ?_) AllReadyH.nil
            rw [List.nil_append, Nat.zero_add] at hown
            obtain ⟨a6, c6, hv6, _, _⟩ := own_snD hown
            subst hv6
            have HO6 := Lib.hid hown
            have HB6 : Hid (Below wS.heap.size wS wq6) := Lib.hid (HB5.out.grown hgrow HB5.out.size (fun g hg => (own_5.out.lt g hg).1))
            clear hown hgrow
            refine ⟨HB6.out, fun hHeld => ?_⟩
            simp only [Act.put, List.setIfInBounds_toArray, List.set_cons_zero, List.set_cons_succ]
            refine hTake 7 (Op.assign (Operand.tmp 53)) (some 2) (.int .u32 (G : Int)) (by kernel_rfl) (by kernel_rfl) (by kernel_rfl) (by kernel_rfl) (by kernel_rfl) (fun _ _ _ h => h) (fun o ho wX hX => by unfold execOp; simp only [ho]; go_simp) hHeld ?_
            simp only [Act.put, List.setIfInBounds_toArray, List.set_cons_zero, List.set_cons_succ]
            refine hTake 8 (Op.assign (Operand.tmp 58)) (some 3) (.slice a6 N c6) (by kernel_rfl) (by kernel_rfl) (by kernel_rfl) (by kernel_rfl) (by kernel_rfl) (fun _ _ _ h => h) (fun o ho wX hX => by unfold execOp; simp only [ho]; go_simp) hHeld ?_
            simp only [Act.put, List.setIfInBounds_toArray, List.set_cons_zero, List.set_cons_succ]
            refine hTake 9 (Op.assign (Operand.const (Value.bool true))) (some 4) (.bool true) (by kernel_rfl) (by kernel_rfl) (by kernel_rfl) (by kernel_rfl) (by kernel_rfl) (fun _ _ _ h => h) (fun o ho wX hX => by unfold execOp; simp only [ho]; go_simp) hHeld ?_
            simp only [Act.put, List.setIfInBounds_toArray, List.set_cons_zero, List.set_cons_succ]
            refine wpAnyH_done (by kernel_rfl) ?_ _
            go_wp2_with fail
            go_ret3
            exact ⟨bstep HWS.out HB6.out, .inr ⟨G, (s.drop 2).take N, _, HF.out, rfl, by rw [HNL.out]; exact Sn.own HO6.out⟩⟩
end Go.Proofs.Ytpkcddnclifcpaa
