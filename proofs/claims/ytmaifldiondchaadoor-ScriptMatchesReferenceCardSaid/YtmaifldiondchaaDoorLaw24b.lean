/- The law ScriptMatchesReference: its walk. -/
import Derived.Test.YtmaifldiondchaaDoorAwake24
import Derived.Test.YtmaifldiondchaaDoorRLine
import Derived.Test.YtmaifldiondchaaDoorLen24
import Derived.Test.YtmaifldiondchaaDoorHeld
namespace Go.Proofs.YtmaifldiondchaaDoor
open Go.RowKit
attribute [local irreducible] wpAnyH wpQuiet
set_option linter.unusedSimpArgs false

set_option maxRecDepth 100000 in
set_option maxHeartbeats 8000000 in
theorem matchLaw_any (k n : Int) (d : Bs) (c : List Int) (A B : Option Addr) (ca cb : Nat) (w : World) (ht : Tab w) (hml : ML w)
    (hd : Sn w 1 (.slice A d.length ca) d.length (Lib.byteCells d)) (hc : Sn w 1 (.slice B c.length cb) c.length (intC c))
    (hcm : c.length ≤ 9223372036854775807) (hdm : d.length ≤ 9223372036854775807) :
    Calls Tryd.prog 5 #[.agg #[.int .i64 k, .int .i64 n, .slice A d.length ca, .slice B c.length cb]] w fun e w' => e = .returned (.bool true) ∧ Below w.heap.size w w' := by
  have HT := Lib.hid ht
  have HML := Lib.hid hml
  have HD := Lib.hid hd
  have HC := Lib.hid hc
  clear ht hml hd hc
  have hzr : ∀ w, (zeroValue 26).run Tryd.prog w = .ok (.agg opZ) w := fun w => by kernel_rfl
  have HZR := Lib.hid hzr
  clear hzr
  rcases Bool.eq_false_or_eq_true (fewB d c) with hfa | hfa
  rotate_left 1
  · skip
    go_enter Tryd.func5, Tryd.ntmps5
    have HB0 : Hid (Below w.heap.size w (w.alloc (.cells #[.int .i64 k, .int .i64 n, .slice A d.length ca, .slice B c.length cb] 26))) := Lib.hid (bel1 _ _)
    have HK0 : Hid (Blk (w.alloc (.cells #[.int .i64 k, .int .i64 n, .slice A d.length ca, .slice B c.length cb] 26)) w.heap.size 26 #[.int .i64 k, .int .i64 n, .slice A d.length ca, .slice B c.length cb]) := Lib.hid (Blk.new _ _ _)
    have HT0 := Lib.hid (HT.out.below HB0.out)
    have HML0 := Lib.hid (HML.out.below HB0.out)
    go_wp2_with (first
      | (have hq := HB2.out; clear hq; go_at_call 8; refine (awake_any w2 (HT.out.below HB2.out) (HML.out.below HB2.out)).mono ?_; rintro e wz ⟨rfl, hbz⟩; have HBZ := Lib.hid (bstep HB2.out hbz); clear hbz)
      | (have hq := HB1.out; clear hq; go_at_call 13; refine (few_any k n d c A B ca cb _ hcm hdm).mono ?_; rw [hfa]; rintro e w2 ⟨rfl, hb2⟩; have HB2 := Lib.hid (bstep HB1.out hb2); have HK2 := Lib.hid (HK1.out.keep hb2); have HRA2 : Hid (w2.rangeAt w.heap.size 0 [.int .i64 k, .int .i64 n, .slice A d.length ca, .slice B c.length cb]) := Lib.hid HK2.out.range; clear hb2)
      | (refine ld 26 (.tmp 1) rfl rfl (by rfl) HRA1.out Tryd.underlying26 rfl (by kernel_rfl) ?_)
      | (go_at_call 8; refine (awake_any _ HT0.out HML0.out).mono ?_; rintro e w1 ⟨rfl, hb1⟩; have HB1 := Lib.hid (bstep HB0.out hb1); have HK1 := Lib.hid (HK0.out.keep hb1); have HRA1 : Hid (w1.rangeAt w.heap.size 0 [.int .i64 k, .int .i64 n, .slice A d.length ca, .slice B c.length cb]) := Lib.hid HK1.out.range; clear hb1))
    go_ret
    exact ⟨rfl, HBZ.out⟩
  have hdl : d.length ≤ 500 ∧ c.length ≤ 50 := by unfold fewB at hfa; simpa using hfa
  have HLN := Lib.hid (fun (w1 : World) (hb : Below w.heap.size w w1) => line_any k n d c A B ca cb w1 (HT.out.below hb) (HD.out.below hb) (HC.out.below hb) (by omega) (by omega))
  have HRL0 := Lib.hid (fun (w1 : World) (hb : Below w.heap.size w w1) => refLine_any k n d c A B ca cb w1 (HD.out.below hb) (HC.out.below hb) (by omega) (by omega))
  have HRI := Lib.hid (fun (w1 : World) (hb : Below w.heap.size w w1) => right_any k n d c A B ca cb w1 (HC.out.below hb) hcm hdm)
  have HRR := Lib.hid (fun (w1 : World) (hb : Below w.heap.size w w1) => refRight_any k n d c A B ca cb w1 (HC.out.below hb) hcm hdm)
  have HPL := Lib.hid (fun (w1 : World) (hb : Below w.heap.size w w1) (hl : (lineB ⟨k, n, d, c⟩).length ≤ 100000000) => ParseLine_any (lineB ⟨k, n, d, c⟩) w1 (HML.out.below hb) hl)
  have HLEN : Hid ((lineB ⟨k, n, d, c⟩).length ≤ 100000000) := Lib.hid (Nat.le_trans (line_len ⟨k, n, d, c⟩ hdl.1 hdl.2) (by decide))
  obtain ⟨LX, hLX⟩ : ∃ LX, LX = SB (lineB ⟨k, n, d, c⟩) := ⟨_, rfl⟩
  rw [← hLX] at HLN HRL0 HPL
  clear hLX
  have HLL : Hid ((LX.toList == LX.toList) = true) := Lib.hid (beq_self_eq_true _)
  rcases Bool.eq_false_or_eq_true (rightB ⟨k, n, d, c⟩) with hr | hr
  · rw [hr] at HRI HRR
    have hp := parse_line hr
    rw [hp] at HPL
    clear hp hr
    go_enter Tryd.func5, Tryd.ntmps5
    have HB0 : Hid (Below w.heap.size w (w.alloc (.cells #[.int .i64 k, .int .i64 n, .slice A d.length ca, .slice B c.length cb] 26))) := Lib.hid (bel1 _ _)
    have HK0 : Hid (Blk (w.alloc (.cells #[.int .i64 k, .int .i64 n, .slice A d.length ca, .slice B c.length cb] 26)) w.heap.size 26 #[.int .i64 k, .int .i64 n, .slice A d.length ca, .slice B c.length cb]) := Lib.hid (Blk.new _ _ _)
    have HT0 := Lib.hid (HT.out.below HB0.out)
    have HML0 := Lib.hid (HML.out.below HB0.out)
    go_upto_region 4 with (first
      | (have hq := HB2.out; clear hq; go_at_call 12; refine (HLN.out _ HB2.out).mono ?_; rintro e w3 ⟨rfl, hb3⟩; have HB3 := Lib.hid (bstep HB2.out hb3); have HK3 := Lib.hid (HK2.out.keep hb3); have HRA3 : Hid (w3.rangeAt w.heap.size 0 [.int .i64 k, .int .i64 n, .slice A d.length ca, .slice B c.length cb]) := Lib.hid HK3.out.range; clear hb3)
      | (refine ld 26 (.tmp 1) rfl rfl (by rfl) HRA2.out Tryd.underlying26 rfl (by kernel_rfl) ?_)
      | (have hq := HB1.out; clear hq; go_at_call 13; refine (few_any k n d c A B ca cb _ hcm hdm).mono ?_; rw [hfa]; rintro e w2 ⟨rfl, hb2⟩; have HB2 := Lib.hid (bstep HB1.out hb2); have HK2 := Lib.hid (HK1.out.keep hb2); have HRA2 : Hid (w2.rangeAt w.heap.size 0 [.int .i64 k, .int .i64 n, .slice A d.length ca, .slice B c.length cb]) := Lib.hid HK2.out.range; clear hb2)
      | (refine ld 26 (.tmp 1) rfl rfl (by rfl) HRA1.out Tryd.underlying26 rfl (by kernel_rfl) ?_)
      | (go_at_call 8; refine (awake_any _ HT0.out HML0.out).mono ?_; rintro e w1 ⟨rfl, hb1⟩; have HB1 := Lib.hid (bstep HB0.out hb1); have HK1 := Lib.hid (HK0.out.keep hb1); have HRA1 : Hid (w1.rangeAt w.heap.size 0 [.int .i64 k, .int .i64 n, .slice A d.length ca, .slice B c.length cb]) := Lib.hid HK1.out.range; clear hb1))
    have HR1 := Lib.hid (fun (w1 : World) (hb : Below w3.heap.size w3 w1) => HRI.out w1 (bstep HB3.out hb))
    have HR2 := Lib.hid (fun (w1 : World) (hb : Below w3.heap.size w3 w1) => HRR.out w1 (bstep HB3.out hb))
    have HRL := Lib.hid (fun (w1 : World) (hb : Below w3.heap.size w3 w1) => HRL0.out w1 (bstep HB3.out hb))
    refine held_start 11 (fun wz => Below w3.heap.size w3 wz) (by kernel_rfl) (by kernel_rfl) ((Below.refl _ _).drew) (fun hHeld => ?_)
    refine hLoad 0 26 (Operand.tmp 1) (some 16) (cs := [.int .i64 k, .int .i64 n, .slice A d.length ca, .slice B c.length cb]) (by kernel_rfl) (by kernel_rfl) (by kernel_rfl) (by kernel_rfl) (by kernel_rfl) (fun _ _ _ h => h) (by exact rfl) (fun _ hX => fun j u hj => Below.cell' hX (HRA3.out j u hj)) Tryd.underlying26 rfl (by kernel_rfl) hHeld ?_
    simp only [Act.put, List.setIfInBounds_toArray, List.set_cons_zero, List.set_cons_succ]
    refine hLoad 2 26 (Operand.tmp 1) (some 18) (cs := [.int .i64 k, .int .i64 n, .slice A d.length ca, .slice B c.length cb]) (by kernel_rfl) (by kernel_rfl) (by kernel_rfl) (by kernel_rfl) (by kernel_rfl) (fun _ _ _ h => h) (by exact rfl) (fun _ hX => fun j u hj => Below.cell' hX (HRA3.out j u hj)) Tryd.underlying26 rfl (by kernel_rfl) hHeld ?_
    simp only [Act.put, List.setIfInBounds_toArray, List.set_cons_zero, List.set_cons_succ]
    refine wpAnyH_ready (rs := [1]) (by kernel_rfl) (by simp) ?_
    refine rCall 1 (Op.call { callee := Callee.value (Operand.func 18), args := #[Operand.tmp 16], argTypes := #[26] }) (some 17) 18 (#[.agg ([.int .i64 k, .int .i64 n, .slice A d.length ca, .slice B c.length cb]).toArray]) (by kernel_rfl) (by kernel_rfl) (fun o ho => by unfold execOp; simp only [ho]; go_simp) ?_ AllReadyH.nil
    refine (HR1.out _ hHeld).mono ?_
    rintro e wM ⟨rfl, hbM⟩
    refine ⟨_, rfl, bstep hHeld hbM, fun hHeld => ?_⟩
    simp only [Act.put, List.setIfInBounds_toArray, List.set_cons_zero, List.set_cons_succ]
    refine wpAnyH_ready (rs := [3]) (by kernel_rfl) (by simp) ?_
    refine rCall 3 (Op.call { callee := Callee.value (Operand.func 14), args := #[Operand.tmp 18], argTypes := #[26] }) (some 19) 14 (#[.agg ([.int .i64 k, .int .i64 n, .slice A d.length ca, .slice B c.length cb]).toArray]) (by kernel_rfl) (by kernel_rfl) (fun o ho => by unfold execOp; simp only [ho]; go_simp) ?_ AllReadyH.nil
    refine (HR2.out _ hHeld).mono ?_
    rintro e wN ⟨rfl, hbN⟩
    refine ⟨_, rfl, bstep hHeld hbN, fun hHeld => ?_⟩
    simp only [Act.put, List.setIfInBounds_toArray, List.set_cons_zero, List.set_cons_succ]
    refine hTake 4 (Op.binOp BinOp.neq 4 (Operand.tmp 17) (Operand.tmp 19) 4) (some 20) (.bool false) (by kernel_rfl) (by kernel_rfl) (by kernel_rfl) (by kernel_rfl) (by kernel_rfl) (fun _ _ _ h => h) (fun o ho wX hX => by unfold execOp; simp only [ho]; go_simp) hHeld ?_
    simp only [Act.put, List.setIfInBounds_toArray, List.set_cons_zero, List.set_cons_succ]
    refine hMove 5 (Operand.tmp 20) (some 21) (.bool false) (by kernel_rfl) (by kernel_rfl) (by kernel_rfl) (by kernel_rfl) (by kernel_rfl) (fun _ _ _ h => h) (by exact rfl) hHeld ?_
    simp only [Act.put, List.setIfInBounds_toArray, List.set_cons_zero, List.set_cons_succ]
    refine hMove 6 (Operand.tmp 3) (some 22) (.string LX) (by kernel_rfl) (by kernel_rfl) (by kernel_rfl) (by kernel_rfl) (by kernel_rfl) (fun _ _ _ h => h) (by exact rfl) hHeld ?_
    simp only [Act.put, List.setIfInBounds_toArray, List.set_cons_zero, List.set_cons_succ]
    refine hLoad 7 26 (Operand.tmp 1) (some 23) (cs := [.int .i64 k, .int .i64 n, .slice A d.length ca, .slice B c.length cb]) (by kernel_rfl) (by kernel_rfl) (by kernel_rfl) (by kernel_rfl) (by kernel_rfl) (fun _ _ _ h => h) (by exact rfl) (fun _ hX => fun j u hj => Below.cell' hX (HRA3.out j u hj)) Tryd.underlying26 rfl (by kernel_rfl) hHeld ?_
    simp only [Act.put, List.setIfInBounds_toArray, List.set_cons_zero, List.set_cons_succ]
    refine wpAnyH_ready (rs := [8]) (by kernel_rfl) (by simp) ?_
    refine rCall 8 (Op.call { callee := Callee.value (Operand.func 15), args := #[Operand.tmp 23], argTypes := #[26] }) (some 24) 15 (#[.agg ([.int .i64 k, .int .i64 n, .slice A d.length ca, .slice B c.length cb]).toArray]) (by kernel_rfl) (by kernel_rfl) (fun o ho => by unfold execOp; simp only [ho]; go_simp) ?_ AllReadyH.nil
    refine (HRL.out _ hHeld).mono ?_
    rintro e wO ⟨rfl, hbO⟩
    refine ⟨_, rfl, bstep hHeld hbO, fun hHeld => ?_⟩
    simp only [Act.put, List.setIfInBounds_toArray, List.set_cons_zero, List.set_cons_succ]
    refine hTake 9 (Op.binOp BinOp.neq 9 (Operand.tmp 22) (Operand.tmp 24) 9) (some 25) (.bool false) (by kernel_rfl) (by kernel_rfl) (by kernel_rfl) (by kernel_rfl) (by kernel_rfl) (fun _ _ _ h => h) (fun o ho wX hX => by have hll := HLL.out; unfold execOp; simp only [ho]; go_simp) hHeld ?_
    simp only [Act.put, List.setIfInBounds_toArray, List.set_cons_zero, List.set_cons_succ]
    refine hTake 10 (Op.pick (Operand.tmp 21) (Operand.const (Value.bool true)) (Operand.tmp 25)) (some 26) (.bool false) (by kernel_rfl) (by kernel_rfl) (by kernel_rfl) (by kernel_rfl) (by kernel_rfl) (fun _ _ _ h => h) (fun o ho wX hX => by unfold execOp; simp only [ho]; go_simp) hHeld ?_
    simp only [Act.put, List.setIfInBounds_toArray, List.set_cons_zero, List.set_cons_succ]
    refine wpAnyH_done (by kernel_rfl) ?_ _
    have HB4 := Lib.hid (bstep HB3.out hHeld)
    have HK4 := Lib.hid (HK3.out.keep hHeld)
    clear hHeld
    go_upto_region 7 with (first
      | (go_at_call 9; refine (HPL.out _ HB4.out HLEN.out).mono ?_; rintro e w4 ⟨v4, rfl, hv4, hb4⟩; obtain ⟨Ax, cax, Bx, cbx, rfl, sx, sy, _, _⟩ := hv4; have HSX : Hid (Sn w4 1 (.slice Ax d.length cax) d.length (Lib.byteCells d)) := Lib.hid sx; have HSY : Hid (Sn w4 1 (.slice Bx c.length cbx) c.length (intC c)) := Lib.hid sy; have HB5 := Lib.hid (bstep HB4.out hb4); have HK5 := Lib.hid (HK4.out.keep hb4); clear sx sy hb4)
      | (refine al 26 _ rfl rfl HZR.out ?_)
      | (refine stNew (cells := #[.int .i64 k, .int .i64 n, .slice Ax d.length cax, .slice Bx c.length cbx]) 26 (.tmp 4) (.tmp 30) rfl rfl (by rfl) (by rfl) (by kernel_rfl) (by rfl) (opRow_one _ _ _ _ _ _ _ _) ?_; intro w5 hK hb5 hz5; have HKX := Lib.hid (show Blk w5 w4.heap.size 26 #[.int .i64 k, .int .i64 n, .slice Ax d.length cax, .slice Bx c.length cbx] from hK); have HB6 := Lib.hid hb5; clear hK hb5 hz5))
    have HBW := Lib.hid (bstep HB5.out HB6.out)
    have HRA5 : Hid (w5.rangeAt w.heap.size 0 [.int .i64 k, .int .i64 n, .slice A d.length ca, .slice B c.length cb]) := Lib.hid (HK5.out.keep HB6.out).range
    have HRX5 : Hid (w5.rangeAt w4.heap.size 0 [.int .i64 k, .int .i64 n, .slice Ax d.length cax, .slice Bx c.length cbx]) := Lib.hid HKX.out.range
    have HR3 := Lib.hid (fun (w1 : World) (hb : Below w5.heap.size w5 w1) => HRR.out w1 (bstep HBW.out hb))
    have HRS : Hid (∀ w1, Below w5.heap.size w5 w1 → Calls Tryd.prog 11 #[.agg #[.int .i64 k, .int .i64 n, .slice Ax d.length cax, .slice Bx c.length cbx], .agg #[.int .i64 k, .int .i64 n, .slice A d.length ca, .slice B c.length cb]] w1 fun e w' => e = .returned (.bool true) ∧ Below w1.heap.size w1 w') := Lib.hid (fun w1 hb => by
      have h := refSame_any k n k n d d c c Ax A Bx B cax ca cbx cb w1 (HSX.out.below (bstep HB6.out hb)) (HD.out.below (bstep HBW.out hb)) (HSY.out.below (bstep HB6.out hb)) (HC.out.below (bstep HBW.out hb)) hcm hdm
      rw [(sameB_iff _ _).2 rfl] at h
      exact h)
    have HSS : Hid (∀ w1, Below w5.heap.size w5 w1 → Calls Tryd.prog 19 #[.agg #[.int .i64 k, .int .i64 n, .slice Ax d.length cax, .slice Bx c.length cbx], .agg #[.int .i64 k, .int .i64 n, .slice A d.length ca, .slice B c.length cb]] w1 fun e w' => e = .returned (.bool true) ∧ Below w1.heap.size w1 w') := Lib.hid (fun w1 hb => by
      have h := same_any k n k n d d c c Ax A Bx B cax ca cbx cb w1 (HSX.out.below (bstep HB6.out hb)) (HD.out.below (bstep HBW.out hb)) (HSY.out.below (bstep HB6.out hb)) (HC.out.below (bstep HBW.out hb)) hcm
      rw [(sameB_iff _ _).2 rfl] at h
      exact h)
    have HC5 : Hid (Below w5.heap.size w5 w5) := Lib.hid (Below.refl _ _)
    go_wp2_with (first
      | (have hq := HRA7.out; clear hq; go_at_call 19; refine (HSS.out _ HC7.out).mono ?_; rintro e w8 ⟨rfl, hb8⟩; have HRA8 : Hid (w8.rangeAt w.heap.size 0 [.int .i64 k, .int .i64 n, .slice A d.length ca, .slice B c.length cb]) := Lib.hid (fun j u hj => Below.cell' hb8 (HRA7.out j u hj)); have HRX8 : Hid (w8.rangeAt w4.heap.size 0 [.int .i64 k, .int .i64 n, .slice Ax d.length cax, .slice Bx c.length cbx]) := Lib.hid (fun j u hj => Below.cell' hb8 (HRX7.out j u hj)); have HC8 := Lib.hid (bstep HC7.out hb8))
      | (have hq := HRA6.out; clear hq; go_at_call 11; refine (HRS.out _ HC6.out).mono ?_; rintro e w7 ⟨rfl, hb7⟩; have HRA7 : Hid (w7.rangeAt w.heap.size 0 [.int .i64 k, .int .i64 n, .slice A d.length ca, .slice B c.length cb]) := Lib.hid (fun j u hj => Below.cell' hb7 (HRA6.out j u hj)); have HRX7 : Hid (w7.rangeAt w4.heap.size 0 [.int .i64 k, .int .i64 n, .slice Ax d.length cax, .slice Bx c.length cbx]) := Lib.hid (fun j u hj => Below.cell' hb7 (HRX6.out j u hj)); have HC7 := Lib.hid (bstep HC6.out hb7))
      | (go_at_call 14; refine (HR3.out _ (Below.refl _ _)).mono ?_; rintro e w6 ⟨rfl, hb6⟩; have HRA6 : Hid (w6.rangeAt w.heap.size 0 [.int .i64 k, .int .i64 n, .slice A d.length ca, .slice B c.length cb]) := Lib.hid (fun j u hj => Below.cell' hb6 (HRA5.out j u hj)); have HRX6 : Hid (w6.rangeAt w4.heap.size 0 [.int .i64 k, .int .i64 n, .slice Ax d.length cax, .slice Bx c.length cbx]) := Lib.hid (fun j u hj => Below.cell' hb6 (HRX5.out j u hj)); have HC6 := Lib.hid (bstep HC5.out hb6))
      | (refine ld 26 (.tmp 1) rfl rfl (by rfl) HRA7.out Tryd.underlying26 rfl (by kernel_rfl) ?_)
      | (refine ld 26 (.tmp 4) rfl rfl (by rfl) HRX7.out Tryd.underlying26 rfl (by kernel_rfl) ?_)
      | (refine ld 26 (.tmp 1) rfl rfl (by rfl) HRA6.out Tryd.underlying26 rfl (by kernel_rfl) ?_)
      | (refine ld 26 (.tmp 4) rfl rfl (by rfl) HRX6.out Tryd.underlying26 rfl (by kernel_rfl) ?_)
      | (refine ld 26 (.tmp 1) rfl rfl (by rfl) HRA5.out Tryd.underlying26 rfl (by kernel_rfl) ?_)
      | (refine ld 26 (.tmp 4) rfl rfl (by rfl) HRX5.out Tryd.underlying26 rfl (by kernel_rfl) ?_))
    go_ret
    exact ⟨rfl, bstep HBW.out HC8.out⟩
  · rw [hr] at HRI HRR
    have hp : parseL (lineB ⟨k, n, d, c⟩) = none := by unfold lineB; rw [hr]; rfl
    rw [hp] at HPL
    clear hp hr
    go_enter Tryd.func5, Tryd.ntmps5
    have HB0 : Hid (Below w.heap.size w (w.alloc (.cells #[.int .i64 k, .int .i64 n, .slice A d.length ca, .slice B c.length cb] 26))) := Lib.hid (bel1 _ _)
    have HK0 : Hid (Blk (w.alloc (.cells #[.int .i64 k, .int .i64 n, .slice A d.length ca, .slice B c.length cb] 26)) w.heap.size 26 #[.int .i64 k, .int .i64 n, .slice A d.length ca, .slice B c.length cb]) := Lib.hid (Blk.new _ _ _)
    have HT0 := Lib.hid (HT.out.below HB0.out)
    have HML0 := Lib.hid (HML.out.below HB0.out)
    go_upto_region 4 with (first
      | (have hq := HB2.out; clear hq; go_at_call 12; refine (HLN.out _ HB2.out).mono ?_; rintro e w3 ⟨rfl, hb3⟩; have HB3 := Lib.hid (bstep HB2.out hb3); have HK3 := Lib.hid (HK2.out.keep hb3); have HRA3 : Hid (w3.rangeAt w.heap.size 0 [.int .i64 k, .int .i64 n, .slice A d.length ca, .slice B c.length cb]) := Lib.hid HK3.out.range; clear hb3)
      | (refine ld 26 (.tmp 1) rfl rfl (by rfl) HRA2.out Tryd.underlying26 rfl (by kernel_rfl) ?_)
      | (have hq := HB1.out; clear hq; go_at_call 13; refine (few_any k n d c A B ca cb _ hcm hdm).mono ?_; rw [hfa]; rintro e w2 ⟨rfl, hb2⟩; have HB2 := Lib.hid (bstep HB1.out hb2); have HK2 := Lib.hid (HK1.out.keep hb2); have HRA2 : Hid (w2.rangeAt w.heap.size 0 [.int .i64 k, .int .i64 n, .slice A d.length ca, .slice B c.length cb]) := Lib.hid HK2.out.range; clear hb2)
      | (refine ld 26 (.tmp 1) rfl rfl (by rfl) HRA1.out Tryd.underlying26 rfl (by kernel_rfl) ?_)
      | (go_at_call 8; refine (awake_any _ HT0.out HML0.out).mono ?_; rintro e w1 ⟨rfl, hb1⟩; have HB1 := Lib.hid (bstep HB0.out hb1); have HK1 := Lib.hid (HK0.out.keep hb1); have HRA1 : Hid (w1.rangeAt w.heap.size 0 [.int .i64 k, .int .i64 n, .slice A d.length ca, .slice B c.length cb]) := Lib.hid HK1.out.range; clear hb1))
    have HR1 := Lib.hid (fun (w1 : World) (hb : Below w3.heap.size w3 w1) => HRI.out w1 (bstep HB3.out hb))
    have HR2 := Lib.hid (fun (w1 : World) (hb : Below w3.heap.size w3 w1) => HRR.out w1 (bstep HB3.out hb))
    have HRL := Lib.hid (fun (w1 : World) (hb : Below w3.heap.size w3 w1) => HRL0.out w1 (bstep HB3.out hb))
    refine held_start 11 (fun wz => Below w3.heap.size w3 wz) (by kernel_rfl) (by kernel_rfl) ((Below.refl _ _).drew) (fun hHeld => ?_)
    refine hLoad 0 26 (Operand.tmp 1) (some 16) (cs := [.int .i64 k, .int .i64 n, .slice A d.length ca, .slice B c.length cb]) (by kernel_rfl) (by kernel_rfl) (by kernel_rfl) (by kernel_rfl) (by kernel_rfl) (fun _ _ _ h => h) (by exact rfl) (fun _ hX => fun j u hj => Below.cell' hX (HRA3.out j u hj)) Tryd.underlying26 rfl (by kernel_rfl) hHeld ?_
    simp only [Act.put, List.setIfInBounds_toArray, List.set_cons_zero, List.set_cons_succ]
    refine hLoad 2 26 (Operand.tmp 1) (some 18) (cs := [.int .i64 k, .int .i64 n, .slice A d.length ca, .slice B c.length cb]) (by kernel_rfl) (by kernel_rfl) (by kernel_rfl) (by kernel_rfl) (by kernel_rfl) (fun _ _ _ h => h) (by exact rfl) (fun _ hX => fun j u hj => Below.cell' hX (HRA3.out j u hj)) Tryd.underlying26 rfl (by kernel_rfl) hHeld ?_
    simp only [Act.put, List.setIfInBounds_toArray, List.set_cons_zero, List.set_cons_succ]
    refine wpAnyH_ready (rs := [1]) (by kernel_rfl) (by simp) ?_
    refine rCall 1 (Op.call { callee := Callee.value (Operand.func 18), args := #[Operand.tmp 16], argTypes := #[26] }) (some 17) 18 (#[.agg ([.int .i64 k, .int .i64 n, .slice A d.length ca, .slice B c.length cb]).toArray]) (by kernel_rfl) (by kernel_rfl) (fun o ho => by unfold execOp; simp only [ho]; go_simp) ?_ AllReadyH.nil
    refine (HR1.out _ hHeld).mono ?_
    rintro e wM ⟨rfl, hbM⟩
    refine ⟨_, rfl, bstep hHeld hbM, fun hHeld => ?_⟩
    simp only [Act.put, List.setIfInBounds_toArray, List.set_cons_zero, List.set_cons_succ]
    refine wpAnyH_ready (rs := [3]) (by kernel_rfl) (by simp) ?_
    refine rCall 3 (Op.call { callee := Callee.value (Operand.func 14), args := #[Operand.tmp 18], argTypes := #[26] }) (some 19) 14 (#[.agg ([.int .i64 k, .int .i64 n, .slice A d.length ca, .slice B c.length cb]).toArray]) (by kernel_rfl) (by kernel_rfl) (fun o ho => by unfold execOp; simp only [ho]; go_simp) ?_ AllReadyH.nil
    refine (HR2.out _ hHeld).mono ?_
    rintro e wN ⟨rfl, hbN⟩
    refine ⟨_, rfl, bstep hHeld hbN, fun hHeld => ?_⟩
    simp only [Act.put, List.setIfInBounds_toArray, List.set_cons_zero, List.set_cons_succ]
    refine hTake 4 (Op.binOp BinOp.neq 4 (Operand.tmp 17) (Operand.tmp 19) 4) (some 20) (.bool false) (by kernel_rfl) (by kernel_rfl) (by kernel_rfl) (by kernel_rfl) (by kernel_rfl) (fun _ _ _ h => h) (fun o ho wX hX => by unfold execOp; simp only [ho]; go_simp) hHeld ?_
    simp only [Act.put, List.setIfInBounds_toArray, List.set_cons_zero, List.set_cons_succ]
    refine hMove 5 (Operand.tmp 20) (some 21) (.bool false) (by kernel_rfl) (by kernel_rfl) (by kernel_rfl) (by kernel_rfl) (by kernel_rfl) (fun _ _ _ h => h) (by exact rfl) hHeld ?_
    simp only [Act.put, List.setIfInBounds_toArray, List.set_cons_zero, List.set_cons_succ]
    refine hMove 6 (Operand.tmp 3) (some 22) (.string LX) (by kernel_rfl) (by kernel_rfl) (by kernel_rfl) (by kernel_rfl) (by kernel_rfl) (fun _ _ _ h => h) (by exact rfl) hHeld ?_
    simp only [Act.put, List.setIfInBounds_toArray, List.set_cons_zero, List.set_cons_succ]
    refine hLoad 7 26 (Operand.tmp 1) (some 23) (cs := [.int .i64 k, .int .i64 n, .slice A d.length ca, .slice B c.length cb]) (by kernel_rfl) (by kernel_rfl) (by kernel_rfl) (by kernel_rfl) (by kernel_rfl) (fun _ _ _ h => h) (by exact rfl) (fun _ hX => fun j u hj => Below.cell' hX (HRA3.out j u hj)) Tryd.underlying26 rfl (by kernel_rfl) hHeld ?_
    simp only [Act.put, List.setIfInBounds_toArray, List.set_cons_zero, List.set_cons_succ]
    refine wpAnyH_ready (rs := [8]) (by kernel_rfl) (by simp) ?_
    refine rCall 8 (Op.call { callee := Callee.value (Operand.func 15), args := #[Operand.tmp 23], argTypes := #[26] }) (some 24) 15 (#[.agg ([.int .i64 k, .int .i64 n, .slice A d.length ca, .slice B c.length cb]).toArray]) (by kernel_rfl) (by kernel_rfl) (fun o ho => by unfold execOp; simp only [ho]; go_simp) ?_ AllReadyH.nil
    refine (HRL.out _ hHeld).mono ?_
    rintro e wO ⟨rfl, hbO⟩
    refine ⟨_, rfl, bstep hHeld hbO, fun hHeld => ?_⟩
    simp only [Act.put, List.setIfInBounds_toArray, List.set_cons_zero, List.set_cons_succ]
    refine hTake 9 (Op.binOp BinOp.neq 9 (Operand.tmp 22) (Operand.tmp 24) 9) (some 25) (.bool false) (by kernel_rfl) (by kernel_rfl) (by kernel_rfl) (by kernel_rfl) (by kernel_rfl) (fun _ _ _ h => h) (fun o ho wX hX => by have hll := HLL.out; unfold execOp; simp only [ho]; go_simp) hHeld ?_
    simp only [Act.put, List.setIfInBounds_toArray, List.set_cons_zero, List.set_cons_succ]
    refine hTake 10 (Op.pick (Operand.tmp 21) (Operand.const (Value.bool true)) (Operand.tmp 25)) (some 26) (.bool false) (by kernel_rfl) (by kernel_rfl) (by kernel_rfl) (by kernel_rfl) (by kernel_rfl) (fun _ _ _ h => h) (fun o ho wX hX => by unfold execOp; simp only [ho]; go_simp) hHeld ?_
    simp only [Act.put, List.setIfInBounds_toArray, List.set_cons_zero, List.set_cons_succ]
    refine wpAnyH_done (by kernel_rfl) ?_ _
    have HB4 := Lib.hid (bstep HB3.out hHeld)
    have HK4 := Lib.hid (HK3.out.keep hHeld)
    clear hHeld
    go_upto_region 7 with (first
      | (go_at_call 9; refine (HPL.out _ HB4.out HLEN.out).mono ?_; rintro e w4 ⟨v4, rfl, hv4, hb4⟩; obtain ⟨Ax, cax, Bx, cbx, rfl, sx, sy, _, _⟩ := hv4; have HSX : Hid (Sn w4 1 (.slice Ax 0 cax) 0 (Lib.byteCells [])) := Lib.hid sx; have HSY : Hid (Sn w4 1 (.slice Bx 0 cbx) 0 (intC [])) := Lib.hid sy; have HB5 := Lib.hid (bstep HB4.out hb4); have HK5 := Lib.hid (HK4.out.keep hb4); clear sx sy hb4)
      | (refine al 26 _ rfl rfl HZR.out ?_)
      | (refine stNew (cells := #[.int .i64 0, .int .i64 0, .slice Ax 0 cax, .slice Bx 0 cbx]) 26 (.tmp 4) (.tmp 30) rfl rfl (by rfl) (by rfl) (by kernel_rfl) (by rfl) (opRow_one _ _ _ _ _ _ _ _) ?_; intro w5 hK hb5 hz5; have HKX := Lib.hid (show Blk w5 w4.heap.size 26 #[.int .i64 0, .int .i64 0, .slice Ax 0 cax, .slice Bx 0 cbx] from hK); have HB6 := Lib.hid hb5; clear hK hb5 hz5))
    have HBW := Lib.hid (bstep HB5.out HB6.out)
    have HRA5 : Hid (w5.rangeAt w.heap.size 0 [.int .i64 k, .int .i64 n, .slice A d.length ca, .slice B c.length cb]) := Lib.hid (HK5.out.keep HB6.out).range
    have HRX5 : Hid (w5.rangeAt w4.heap.size 0 [.int .i64 0, .int .i64 0, .slice Ax 0 cax, .slice Bx 0 cbx]) := Lib.hid HKX.out.range
    have HR3 := Lib.hid (fun (w1 : World) (hb : Below w5.heap.size w5 w1) => HRR.out w1 (bstep HBW.out hb))
    have HRS : Hid (∀ w1, Below w5.heap.size w5 w1 → Calls Tryd.prog 11 #[.agg #[.int .i64 0, .int .i64 0, .slice Ax 0 cax, .slice Bx 0 cbx], .agg opZ] w1 fun e w' => e = .returned (.bool true) ∧ Below w1.heap.size w1 w') := Lib.hid (fun w1 hb => by
      have h := refSame_any 0 0 0 0 [] [] [] [] Ax none Bx none cax 0 cbx 0 w1 (HSX.out.below (bstep HB6.out hb)) (Sn.nil1 _ _) (HSY.out.below (bstep HB6.out hb)) (Sn.nil1 _ _) (by decide) (by decide)
      rw [(sameB_iff _ _).2 rfl] at h
      exact h)
    have HC5 : Hid (Below w5.heap.size w5 w5) := Lib.hid (Below.refl _ _)
    have hzr := HZR.out
    go_wp2_with (first
      | (have hq := HRA6.out; clear hq; go_at_call 11; refine (HRS.out _ HC6.out).mono ?_; rintro e w7 ⟨rfl, hb7⟩; have HRA7 : Hid (w7.rangeAt w.heap.size 0 [.int .i64 k, .int .i64 n, .slice A d.length ca, .slice B c.length cb]) := Lib.hid (fun j u hj => Below.cell' hb7 (HRA6.out j u hj)); have HRX7 : Hid (w7.rangeAt w4.heap.size 0 [.int .i64 0, .int .i64 0, .slice Ax 0 cax, .slice Bx 0 cbx]) := Lib.hid (fun j u hj => Below.cell' hb7 (HRX6.out j u hj)); have HC7 := Lib.hid (bstep HC6.out hb7))
      | (go_at_call 14; refine (HR3.out _ (Below.refl _ _)).mono ?_; rintro e w6 ⟨rfl, hb6⟩; have HRA6 : Hid (w6.rangeAt w.heap.size 0 [.int .i64 k, .int .i64 n, .slice A d.length ca, .slice B c.length cb]) := Lib.hid (fun j u hj => Below.cell' hb6 (HRA5.out j u hj)); have HRX6 : Hid (w6.rangeAt w4.heap.size 0 [.int .i64 0, .int .i64 0, .slice Ax 0 cax, .slice Bx 0 cbx]) := Lib.hid (fun j u hj => Below.cell' hb6 (HRX5.out j u hj)); have HC6 := Lib.hid (bstep HC5.out hb6))
      | (refine ld 26 (.tmp 1) rfl rfl (by rfl) HRA7.out Tryd.underlying26 rfl (by kernel_rfl) ?_)
      | (refine ld 26 (.tmp 4) rfl rfl (by rfl) HRX7.out Tryd.underlying26 rfl (by kernel_rfl) ?_)
      | (refine ld 26 (.tmp 1) rfl rfl (by rfl) HRA6.out Tryd.underlying26 rfl (by kernel_rfl) ?_)
      | (refine ld 26 (.tmp 4) rfl rfl (by rfl) HRX6.out Tryd.underlying26 rfl (by kernel_rfl) ?_)
      | (refine ld 26 (.tmp 1) rfl rfl (by rfl) HRA5.out Tryd.underlying26 rfl (by kernel_rfl) ?_)
      | (refine ld 26 (.tmp 4) rfl rfl (by rfl) HRX5.out Tryd.underlying26 rfl (by kernel_rfl) ?_))
    go_ret
    exact ⟨rfl, bstep HBW.out HC7.out⟩
end Go.Proofs.YtmaifldiondchaaDoor
