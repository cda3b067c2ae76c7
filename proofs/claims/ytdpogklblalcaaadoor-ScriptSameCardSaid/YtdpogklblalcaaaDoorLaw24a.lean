/- The law ScriptSame: its walk. -/
import Derived.Test.YtdpogklblalcaaaDoorAwake24
import Derived.Test.YtdpogklblalcaaaDoorScrG
import Derived.Test.YtdpogklblalcaaaDoorHeld
namespace Go.Proofs.YtdpogklblalcaaaDoor
open Go.RowKit
attribute [local irreducible] wpAnyH wpQuiet
set_option linter.unusedSimpArgs false

set_option maxRecDepth 100000 in
set_option maxHeartbeats 8000000 in
theorem sameLaw_any (k n k' n' : Int) (d d' : Bs) (c c' : List Int) (A A' B B' : Option Addr) (ca ca' cb cb' : Nat) (w : World) (ht : Tab w) (hml : ML w)
    (hd : Sn w 1 (.slice A d.length ca) d.length (Lib.byteCells d)) (hd' : Sn w 1 (.slice A' d'.length ca') d'.length (Lib.byteCells d'))
    (hc : Sn w 1 (.slice B c.length cb) c.length (intC c)) (hc' : Sn w 1 (.slice B' c'.length cb') c'.length (intC c'))
    (hcm : c.length ≤ 9223372036854775807) (hdm : d.length ≤ 9223372036854775807) (hcm' : c'.length ≤ 9223372036854775807) (hdm' : d'.length ≤ 9223372036854775807) :
    Calls Tryd.prog 6 #[.agg #[.int .i64 k, .int .i64 n, .slice A d.length ca, .slice B c.length cb], .agg #[.int .i64 k', .int .i64 n', .slice A' d'.length ca', .slice B' c'.length cb']] w fun e w' => e = .returned (.bool true) ∧ Below w.heap.size w w' := by
  have HT := Lib.hid ht
  have HML := Lib.hid hml
  have HD := Lib.hid hd
  have HD' := Lib.hid hd'
  have HC := Lib.hid hc
  have HC' := Lib.hid hc'
  clear ht hml hd hd' hc hc'
  rcases Bool.eq_false_or_eq_true (fewB d c) with hfa | hfa
  rotate_left 1
  · skip
    go_enter Tryd.func6, Tryd.ntmps6
    have HB0 : Hid (Below w.heap.size w ((w.alloc (.cells #[.int .i64 k, .int .i64 n, .slice A d.length ca, .slice B c.length cb] 26)).alloc (.cells #[.int .i64 k', .int .i64 n', .slice A' d'.length ca', .slice B' c'.length cb'] 26))) := Lib.hid (bstep (bel1 _ _) (bel1 _ _))
    have HK0 : Hid (Blk ((w.alloc (.cells #[.int .i64 k, .int .i64 n, .slice A d.length ca, .slice B c.length cb] 26)).alloc (.cells #[.int .i64 k', .int .i64 n', .slice A' d'.length ca', .slice B' c'.length cb'] 26)) w.heap.size 26 #[.int .i64 k, .int .i64 n, .slice A d.length ca, .slice B c.length cb]) := Lib.hid ((Blk.new _ _ _).alloc _)
    have HK0' : Hid (Blk ((w.alloc (.cells #[.int .i64 k, .int .i64 n, .slice A d.length ca, .slice B c.length cb] 26)).alloc (.cells #[.int .i64 k', .int .i64 n', .slice A' d'.length ca', .slice B' c'.length cb'] 26)) (w.heap.size + 1) 26 #[.int .i64 k', .int .i64 n', .slice A' d'.length ca', .slice B' c'.length cb']) := Lib.hid (Blk.newAt _ _ _ _ (by simp))
    have HT0 := Lib.hid (HT.out.below HB0.out)
    have HML0 := Lib.hid (HML.out.below HB0.out)
    go_wp2_with (first
      | (go_at_call 8; refine (awake_any w2 (HT.out.below HB2.out) (HML.out.below HB2.out)).mono ?_; rintro e wz ⟨rfl, hbz⟩; have HBZ := Lib.hid (bstep HB2.out hbz); clear hbz)
      | (have hq := HB1.out; clear hq; go_at_call 13; refine (few_any k n d c A B ca cb _ hcm hdm).mono ?_; rw [hfa]; rintro e w2 ⟨rfl, hb2⟩; have HB2 := Lib.hid (bstep HB1.out hb2); have HRA2 : Hid (w2.rangeAt w.heap.size 0 [.int .i64 k, .int .i64 n, .slice A d.length ca, .slice B c.length cb]) := Lib.hid (HK1.out.keep hb2).range; have HRB2 : Hid (w2.rangeAt (w.heap.size + 1) 0 [.int .i64 k', .int .i64 n', .slice A' d'.length ca', .slice B' c'.length cb']) := Lib.hid (HK1'.out.keep hb2).range; have HK2 := Lib.hid (HK1.out.keep hb2); have HK2' := Lib.hid (HK1'.out.keep hb2); clear hb2)
      | (refine ld 26 (.tmp 2) rfl rfl (by rfl) HRA1.out Tryd.underlying26 rfl (by kernel_rfl) ?_)
      | (go_at_call 8; refine (awake_any _ HT0.out HML0.out).mono ?_; rintro e w1 ⟨rfl, hb1⟩; have HB1 := Lib.hid (bstep HB0.out hb1); have HRA1 : Hid (w1.rangeAt w.heap.size 0 [.int .i64 k, .int .i64 n, .slice A d.length ca, .slice B c.length cb]) := Lib.hid (HK0.out.keep hb1).range; have HRB1 : Hid (w1.rangeAt (w.heap.size + 1) 0 [.int .i64 k', .int .i64 n', .slice A' d'.length ca', .slice B' c'.length cb']) := Lib.hid (HK0'.out.keep hb1).range; have HK1 := Lib.hid (HK0.out.keep hb1); have HK1' := Lib.hid (HK0'.out.keep hb1); clear hb1))
    go_ret
    exact ⟨rfl, HBZ.out⟩
  rcases Bool.eq_false_or_eq_true (fewB d' c') with hfb | hfb
  rotate_left 1
  · skip
    go_enter Tryd.func6, Tryd.ntmps6
    have HB0 : Hid (Below w.heap.size w ((w.alloc (.cells #[.int .i64 k, .int .i64 n, .slice A d.length ca, .slice B c.length cb] 26)).alloc (.cells #[.int .i64 k', .int .i64 n', .slice A' d'.length ca', .slice B' c'.length cb'] 26))) := Lib.hid (bstep (bel1 _ _) (bel1 _ _))
    have HK0 : Hid (Blk ((w.alloc (.cells #[.int .i64 k, .int .i64 n, .slice A d.length ca, .slice B c.length cb] 26)).alloc (.cells #[.int .i64 k', .int .i64 n', .slice A' d'.length ca', .slice B' c'.length cb'] 26)) w.heap.size 26 #[.int .i64 k, .int .i64 n, .slice A d.length ca, .slice B c.length cb]) := Lib.hid ((Blk.new _ _ _).alloc _)
    have HK0' : Hid (Blk ((w.alloc (.cells #[.int .i64 k, .int .i64 n, .slice A d.length ca, .slice B c.length cb] 26)).alloc (.cells #[.int .i64 k', .int .i64 n', .slice A' d'.length ca', .slice B' c'.length cb'] 26)) (w.heap.size + 1) 26 #[.int .i64 k', .int .i64 n', .slice A' d'.length ca', .slice B' c'.length cb']) := Lib.hid (Blk.newAt _ _ _ _ (by simp))
    have HT0 := Lib.hid (HT.out.below HB0.out)
    have HML0 := Lib.hid (HML.out.below HB0.out)
    go_wp2_with (first
      | (go_at_call 8; refine (awake_any w3 (HT.out.below HB3.out) (HML.out.below HB3.out)).mono ?_; rintro e wz ⟨rfl, hbz⟩; have HBZ := Lib.hid (bstep HB3.out hbz); clear hbz)
      | (have hq := HB2.out; clear hq; go_at_call 13; refine (few_any k' n' d' c' A' B' ca' cb' _ hcm' hdm').mono ?_; rw [hfb]; rintro e w3 ⟨rfl, hb3⟩; have HB3 := Lib.hid (bstep HB2.out hb3); have HK3 := Lib.hid (HK2.out.keep hb3); have HK3' := Lib.hid (HK2'.out.keep hb3); have HRA3 : Hid (w3.rangeAt w.heap.size 0 [.int .i64 k, .int .i64 n, .slice A d.length ca, .slice B c.length cb]) := Lib.hid HK3.out.range; have HRB3 : Hid (w3.rangeAt (w.heap.size + 1) 0 [.int .i64 k', .int .i64 n', .slice A' d'.length ca', .slice B' c'.length cb']) := Lib.hid HK3'.out.range; clear hb3)
      | (refine ld 26 (.tmp 3) rfl rfl (by rfl) HRB2.out Tryd.underlying26 rfl (by kernel_rfl) ?_)
      | (have hq := HB1.out; clear hq; go_at_call 13; refine (few_any k n d c A B ca cb _ hcm hdm).mono ?_; rw [hfa]; rintro e w2 ⟨rfl, hb2⟩; have HB2 := Lib.hid (bstep HB1.out hb2); have HRA2 : Hid (w2.rangeAt w.heap.size 0 [.int .i64 k, .int .i64 n, .slice A d.length ca, .slice B c.length cb]) := Lib.hid (HK1.out.keep hb2).range; have HRB2 : Hid (w2.rangeAt (w.heap.size + 1) 0 [.int .i64 k', .int .i64 n', .slice A' d'.length ca', .slice B' c'.length cb']) := Lib.hid (HK1'.out.keep hb2).range; have HK2 := Lib.hid (HK1.out.keep hb2); have HK2' := Lib.hid (HK1'.out.keep hb2); clear hb2)
      | (refine ld 26 (.tmp 2) rfl rfl (by rfl) HRA1.out Tryd.underlying26 rfl (by kernel_rfl) ?_)
      | (go_at_call 8; refine (awake_any _ HT0.out HML0.out).mono ?_; rintro e w1 ⟨rfl, hb1⟩; have HB1 := Lib.hid (bstep HB0.out hb1); have HRA1 : Hid (w1.rangeAt w.heap.size 0 [.int .i64 k, .int .i64 n, .slice A d.length ca, .slice B c.length cb]) := Lib.hid (HK0.out.keep hb1).range; have HRB1 : Hid (w1.rangeAt (w.heap.size + 1) 0 [.int .i64 k', .int .i64 n', .slice A' d'.length ca', .slice B' c'.length cb']) := Lib.hid (HK0'.out.keep hb1).range; have HK1 := Lib.hid (HK0.out.keep hb1); have HK1' := Lib.hid (HK0'.out.keep hb1); clear hb1))
    go_ret
    exact ⟨rfl, HBZ.out⟩
  have hdl : d.length ≤ 500 ∧ c.length ≤ 50 := by unfold fewB at hfa; simpa using hfa
  have hdl' : d'.length ≤ 500 ∧ c'.length ≤ 50 := by unfold fewB at hfb; simpa using hfb
  have HSA := Lib.hid (fun (w1 : World) (hb : Below w.heap.size w w1) => same_any k n k' n' d d' c c' A A' B B' ca ca' cb cb' w1 (HD.out.below hb) (HD'.out.below hb) (HC.out.below hb) (HC'.out.below hb) hcm)
  have HRS0 := Lib.hid (fun (w1 : World) (hb : Below w.heap.size w w1) => refSame_any k n k' n' d d' c c' A A' B B' ca ca' cb cb' w1 (HD.out.below hb) (HD'.out.below hb) (HC.out.below hb) (HC'.out.below hb) hcm hdm)
  have HEQ0 : Hid (rightB ⟨k, n, d, c⟩ = true → rightB ⟨k', n', d', c'⟩ = true → sameB ⟨k, n, d, c⟩ ⟨k', n', d', c'⟩ = decide (lineB ⟨k, n, d, c⟩ = lineB ⟨k', n', d', c'⟩)) := Lib.hid (fun h1 h2 => by
    rw [Bool.eq_iff_iff, sameB_iff, decide_eq_true_iff]
    exact ⟨fun e => by rw [e], fun e => line_inj h1 h2 e⟩)
  obtain ⟨SM, hSM⟩ : ∃ SM, SM = sameB ⟨k, n, d, c⟩ ⟨k', n', d', c'⟩ := ⟨_, rfl⟩
  rw [← hSM] at HSA HRS0 HEQ0
  clear hSM
  go_enter Tryd.func6, Tryd.ntmps6
  have HB0 : Hid (Below w.heap.size w ((w.alloc (.cells #[.int .i64 k, .int .i64 n, .slice A d.length ca, .slice B c.length cb] 26)).alloc (.cells #[.int .i64 k', .int .i64 n', .slice A' d'.length ca', .slice B' c'.length cb'] 26))) := Lib.hid (bstep (bel1 _ _) (bel1 _ _))
  have HK0 : Hid (Blk ((w.alloc (.cells #[.int .i64 k, .int .i64 n, .slice A d.length ca, .slice B c.length cb] 26)).alloc (.cells #[.int .i64 k', .int .i64 n', .slice A' d'.length ca', .slice B' c'.length cb'] 26)) w.heap.size 26 #[.int .i64 k, .int .i64 n, .slice A d.length ca, .slice B c.length cb]) := Lib.hid ((Blk.new _ _ _).alloc _)
  have HK0' : Hid (Blk ((w.alloc (.cells #[.int .i64 k, .int .i64 n, .slice A d.length ca, .slice B c.length cb] 26)).alloc (.cells #[.int .i64 k', .int .i64 n', .slice A' d'.length ca', .slice B' c'.length cb'] 26)) (w.heap.size + 1) 26 #[.int .i64 k', .int .i64 n', .slice A' d'.length ca', .slice B' c'.length cb']) := Lib.hid (Blk.newAt _ _ _ _ (by simp))
  have HT0 := Lib.hid (HT.out.below HB0.out)
  have HML0 := Lib.hid (HML.out.below HB0.out)
  go_upto_region 4 with (first
    | (have hq := HB3.out; clear hq; go_at_call 19; refine (HSA.out w3 HB3.out).mono ?_; rintro e w4 ⟨rfl, hb4⟩; have HB4 := Lib.hid (bstep HB3.out hb4); have HRA : Hid (w4.rangeAt w.heap.size 0 [.int .i64 k, .int .i64 n, .slice A d.length ca, .slice B c.length cb]) := Lib.hid (HK3.out.keep hb4).range; have HRB : Hid (w4.rangeAt (w.heap.size + 1) 0 [.int .i64 k', .int .i64 n', .slice A' d'.length ca', .slice B' c'.length cb']) := Lib.hid (HK3'.out.keep hb4).range; clear hb4)
    | (refine ld 26 (.tmp 3) rfl rfl (by rfl) HRB3.out Tryd.underlying26 rfl (by kernel_rfl) ?_)
    | (refine ld 26 (.tmp 2) rfl rfl (by rfl) HRA3.out Tryd.underlying26 rfl (by kernel_rfl) ?_)
    | (have hq := HB2.out; clear hq; go_at_call 13; refine (few_any k' n' d' c' A' B' ca' cb' _ hcm' hdm').mono ?_; rw [hfb]; rintro e w3 ⟨rfl, hb3⟩; have HB3 := Lib.hid (bstep HB2.out hb3); have HK3 := Lib.hid (HK2.out.keep hb3); have HK3' := Lib.hid (HK2'.out.keep hb3); have HRA3 : Hid (w3.rangeAt w.heap.size 0 [.int .i64 k, .int .i64 n, .slice A d.length ca, .slice B c.length cb]) := Lib.hid HK3.out.range; have HRB3 : Hid (w3.rangeAt (w.heap.size + 1) 0 [.int .i64 k', .int .i64 n', .slice A' d'.length ca', .slice B' c'.length cb']) := Lib.hid HK3'.out.range; clear hb3)
    | (refine ld 26 (.tmp 3) rfl rfl (by rfl) HRB2.out Tryd.underlying26 rfl (by kernel_rfl) ?_)
    | (have hq := HB1.out; clear hq; go_at_call 13; refine (few_any k n d c A B ca cb _ hcm hdm).mono ?_; rw [hfa]; rintro e w2 ⟨rfl, hb2⟩; have HB2 := Lib.hid (bstep HB1.out hb2); have HRA2 : Hid (w2.rangeAt w.heap.size 0 [.int .i64 k, .int .i64 n, .slice A d.length ca, .slice B c.length cb]) := Lib.hid (HK1.out.keep hb2).range; have HRB2 : Hid (w2.rangeAt (w.heap.size + 1) 0 [.int .i64 k', .int .i64 n', .slice A' d'.length ca', .slice B' c'.length cb']) := Lib.hid (HK1'.out.keep hb2).range; have HK2 := Lib.hid (HK1.out.keep hb2); have HK2' := Lib.hid (HK1'.out.keep hb2); clear hb2)
    | (refine ld 26 (.tmp 2) rfl rfl (by rfl) HRA1.out Tryd.underlying26 rfl (by kernel_rfl) ?_)
    | (go_at_call 8; refine (awake_any _ HT0.out HML0.out).mono ?_; rintro e w1 ⟨rfl, hb1⟩; have HB1 := Lib.hid (bstep HB0.out hb1); have HRA1 : Hid (w1.rangeAt w.heap.size 0 [.int .i64 k, .int .i64 n, .slice A d.length ca, .slice B c.length cb]) := Lib.hid (HK0.out.keep hb1).range; have HRB1 : Hid (w1.rangeAt (w.heap.size + 1) 0 [.int .i64 k', .int .i64 n', .slice A' d'.length ca', .slice B' c'.length cb']) := Lib.hid (HK0'.out.keep hb1).range; have HK1 := Lib.hid (HK0.out.keep hb1); have HK1' := Lib.hid (HK0'.out.keep hb1); clear hb1))
  have HRS : Hid (∀ w1, Below w4.heap.size w4 w1 → _) := Lib.hid (fun (w1 : World) (hb : Below w4.heap.size w4 w1) => HRS0.out w1 (bstep HB4.out hb))
  have HRRA := Lib.hid (fun (w1 : World) (hb : Below w4.heap.size w4 w1) => refRight_any k n d c A B ca cb w1 (HC.out.below (bstep HB4.out hb)) hcm hdm)
  have HRRB := Lib.hid (fun (w1 : World) (hb : Below w4.heap.size w4 w1) => refRight_any k' n' d' c' A' B' ca' cb' w1 (HC'.out.below (bstep HB4.out hb)) hcm' hdm')
  have HLA := Lib.hid (fun (w1 : World) (hb : Below w4.heap.size w4 w1) => line_any k n d c A B ca cb w1 (HT.out.below (bstep HB4.out hb)) (HD.out.below (bstep HB4.out hb)) (HC.out.below (bstep HB4.out hb)) (by omega) (by omega))
  have HLB := Lib.hid (fun (w1 : World) (hb : Below w4.heap.size w4 w1) => line_any k' n' d' c' A' B' ca' cb' w1 (HT.out.below (bstep HB4.out hb)) (HD'.out.below (bstep HB4.out hb)) (HC'.out.below (bstep HB4.out hb)) (by omega) (by omega))
  have HSS : Hid ((SM == SM) = true) := Lib.hid (beq_self_eq_true _)
  obtain ⟨LA, hLA⟩ : ∃ LA, LA = SB (lineB ⟨k, n, d, c⟩) := ⟨_, rfl⟩
  obtain ⟨LB, hLB⟩ : ∃ LB, LB = SB (lineB ⟨k', n', d', c'⟩) := ⟨_, rfl⟩
  rw [← hLA] at HLA
  rw [← hLB] at HLB
  rcases Bool.eq_false_or_eq_true (rightB ⟨k, n, d, c⟩) with ra | ra
  · rw [ra] at HRRA
    rcases Bool.eq_false_or_eq_true (rightB ⟨k', n', d', c'⟩) with rb | rb
    · rw [rb] at HRRB
      have HEQ : Hid ((LA.toList == LB.toList) = SM) := Lib.hid (by
        rw [HEQ0.out ra rb, hLA, hLB, ByteArray.toList_eq, ByteArray.toList_eq, SB_list, SB_list, Bool.eq_iff_iff]
        simp)
      clear hLA hLB HEQ0 ra rb
      refine held_start 25 (fun w3 => Below w4.heap.size w4 w3) (by kernel_rfl) (by kernel_rfl) ((Below.refl _ _).drew) (fun hHeld => ?_)
      refine hMove 0 (Operand.tmp 5) (some 22) (.bool SM) (by kernel_rfl) (by kernel_rfl) (by kernel_rfl) (by kernel_rfl) (by kernel_rfl) (fun _ _ _ h => h) (by exact rfl) hHeld ?_
      simp only [Act.put, List.setIfInBounds_toArray, List.set_cons_zero, List.set_cons_succ]
      refine hLoad 1 26 (Operand.tmp 2) (some 23) (cs := [.int .i64 k, .int .i64 n, .slice A d.length ca, .slice B c.length cb]) (by kernel_rfl) (by kernel_rfl) (by kernel_rfl) (by kernel_rfl) (by kernel_rfl) (fun _ _ _ h => h) (by exact rfl) (fun _ hX => fun j u hj => Below.cell' hX (HRA.out j u hj)) Tryd.underlying26 rfl (by kernel_rfl) hHeld ?_
      simp only [Act.put, List.setIfInBounds_toArray, List.set_cons_zero, List.set_cons_succ]
      refine hLoad 2 26 (Operand.tmp 3) (some 24) (cs := [.int .i64 k', .int .i64 n', .slice A' d'.length ca', .slice B' c'.length cb']) (by kernel_rfl) (by kernel_rfl) (by kernel_rfl) (by kernel_rfl) (by kernel_rfl) (fun _ _ _ h => h) (by exact rfl) (fun _ hX => fun j u hj => Below.cell' hX (HRB.out j u hj)) Tryd.underlying26 rfl (by kernel_rfl) hHeld ?_
      simp only [Act.put, List.setIfInBounds_toArray, List.set_cons_zero, List.set_cons_succ]
      refine wpAnyH_ready (rs := [3]) (by kernel_rfl) (by simp) ?_
      refine rCall 3 (Op.call { callee := Callee.value (Operand.func 11), args := #[Operand.tmp 23, Operand.tmp 24], argTypes := #[26, 26] }) (some 25) 11 (#[.agg ([.int .i64 k, .int .i64 n, .slice A d.length ca, .slice B c.length cb]).toArray, .agg ([.int .i64 k', .int .i64 n', .slice A' d'.length ca', .slice B' c'.length cb']).toArray]) (by kernel_rfl) (by kernel_rfl) (fun o ho => by unfold execOp; simp only [ho]; go_simp) ?_ AllReadyH.nil
      refine (HRS.out _ hHeld).mono ?_
      rintro e wM ⟨rfl, hbM⟩
      refine ⟨_, rfl, bstep hHeld hbM, fun hHeld => ?_⟩
      simp only [Act.put, List.setIfInBounds_toArray, List.set_cons_zero, List.set_cons_succ]
      refine hTake 4 (Op.binOp BinOp.eql 4 (Operand.tmp 22) (Operand.tmp 25) 4) (some 26) (.bool true) (by kernel_rfl) (by kernel_rfl) (by kernel_rfl) (by kernel_rfl) (by kernel_rfl) (fun _ _ _ h => h) (fun o ho wX hX => by have hss := HSS.out; unfold execOp; simp only [ho]; go_simp) hHeld ?_
      simp only [Act.put, List.setIfInBounds_toArray, List.set_cons_zero, List.set_cons_succ]
      refine hMove 5 (Operand.tmp 26) (some 27) (.bool true) (by kernel_rfl) (by kernel_rfl) (by kernel_rfl) (by kernel_rfl) (by kernel_rfl) (fun _ _ _ h => h) (by exact rfl) hHeld ?_
      simp only [Act.put, List.setIfInBounds_toArray, List.set_cons_zero, List.set_cons_succ]
      refine hLoad 6 26 (Operand.tmp 2) (some 28) (cs := [.int .i64 k, .int .i64 n, .slice A d.length ca, .slice B c.length cb]) (by kernel_rfl) (by kernel_rfl) (by kernel_rfl) (by kernel_rfl) (by kernel_rfl) (fun _ _ _ h => h) (by exact rfl) (fun _ hX => fun j u hj => Below.cell' hX (HRA.out j u hj)) Tryd.underlying26 rfl (by kernel_rfl) hHeld ?_
      simp only [Act.put, List.setIfInBounds_toArray, List.set_cons_zero, List.set_cons_succ]
      refine wpAnyH_ready (rs := [7]) (by kernel_rfl) (by simp) ?_
      refine rCall 7 (Op.call { callee := Callee.value (Operand.func 14), args := #[Operand.tmp 28], argTypes := #[26] }) (some 29) 14 (#[.agg ([.int .i64 k, .int .i64 n, .slice A d.length ca, .slice B c.length cb]).toArray]) (by kernel_rfl) (by kernel_rfl) (fun o ho => by unfold execOp; simp only [ho]; go_simp) ?_ AllReadyH.nil
      refine (HRRA.out _ hHeld).mono ?_
      rintro e wN ⟨rfl, hbN⟩
      refine ⟨_, rfl, bstep hHeld hbN, fun hHeld => ?_⟩
      simp only [Act.put, List.setIfInBounds_toArray, List.set_cons_zero, List.set_cons_succ]
      refine hTake 8 (Op.unOp UnOp.not 4 (Operand.tmp 29)) (some 30) (.bool false) (by kernel_rfl) (by kernel_rfl) (by kernel_rfl) (by kernel_rfl) (by kernel_rfl) (fun _ _ _ h => h) (fun o ho wX hX => by unfold execOp; simp only [ho]; go_simp) hHeld ?_
      simp only [Act.put, List.setIfInBounds_toArray, List.set_cons_zero, List.set_cons_succ]
      refine hMove 9 (Operand.tmp 30) (some 31) (.bool false) (by kernel_rfl) (by kernel_rfl) (by kernel_rfl) (by kernel_rfl) (by kernel_rfl) (fun _ _ _ h => h) (by exact rfl) hHeld ?_
      simp only [Act.put, List.setIfInBounds_toArray, List.set_cons_zero, List.set_cons_succ]
      refine hLoad 10 26 (Operand.tmp 3) (some 32) (cs := [.int .i64 k', .int .i64 n', .slice A' d'.length ca', .slice B' c'.length cb']) (by kernel_rfl) (by kernel_rfl) (by kernel_rfl) (by kernel_rfl) (by kernel_rfl) (fun _ _ _ h => h) (by exact rfl) (fun _ hX => fun j u hj => Below.cell' hX (HRB.out j u hj)) Tryd.underlying26 rfl (by kernel_rfl) hHeld ?_
      simp only [Act.put, List.setIfInBounds_toArray, List.set_cons_zero, List.set_cons_succ]
      refine wpAnyH_ready (rs := [11]) (by kernel_rfl) (by simp) ?_
      refine rCall 11 (Op.call { callee := Callee.value (Operand.func 14), args := #[Operand.tmp 32], argTypes := #[26] }) (some 33) 14 (#[.agg ([.int .i64 k', .int .i64 n', .slice A' d'.length ca', .slice B' c'.length cb']).toArray]) (by kernel_rfl) (by kernel_rfl) (fun o ho => by unfold execOp; simp only [ho]; go_simp) ?_ AllReadyH.nil
      refine (HRRB.out _ hHeld).mono ?_
      rintro e wO ⟨rfl, hbO⟩
      refine ⟨_, rfl, bstep hHeld hbO, fun hHeld => ?_⟩
      simp only [Act.put, List.setIfInBounds_toArray, List.set_cons_zero, List.set_cons_succ]
      refine hTake 12 (Op.unOp UnOp.not 4 (Operand.tmp 33)) (some 34) (.bool false) (by kernel_rfl) (by kernel_rfl) (by kernel_rfl) (by kernel_rfl) (by kernel_rfl) (fun _ _ _ h => h) (fun o ho wX hX => by unfold execOp; simp only [ho]; go_simp) hHeld ?_
      simp only [Act.put, List.setIfInBounds_toArray, List.set_cons_zero, List.set_cons_succ]
      refine hTake 13 (Op.pick (Operand.tmp 31) (Operand.const (Value.bool true)) (Operand.tmp 34)) (some 35) (.bool false) (by kernel_rfl) (by kernel_rfl) (by kernel_rfl) (by kernel_rfl) (by kernel_rfl) (fun _ _ _ h => h) (fun o ho wX hX => by unfold execOp; simp only [ho]; go_simp) hHeld ?_
      simp only [Act.put, List.setIfInBounds_toArray, List.set_cons_zero, List.set_cons_succ]
      refine hMove 14 (Operand.tmp 35) (some 36) (.bool false) (by kernel_rfl) (by kernel_rfl) (by kernel_rfl) (by kernel_rfl) (by kernel_rfl) (fun _ _ _ h => h) (by exact rfl) hHeld ?_
      simp only [Act.put, List.setIfInBounds_toArray, List.set_cons_zero, List.set_cons_succ]
      refine hMove 15 (Operand.tmp 5) (some 37) (.bool SM) (by kernel_rfl) (by kernel_rfl) (by kernel_rfl) (by kernel_rfl) (by kernel_rfl) (fun _ _ _ h => h) (by exact rfl) hHeld ?_
      simp only [Act.put, List.setIfInBounds_toArray, List.set_cons_zero, List.set_cons_succ]
      refine hLoad 16 26 (Operand.tmp 2) (some 38) (cs := [.int .i64 k, .int .i64 n, .slice A d.length ca, .slice B c.length cb]) (by kernel_rfl) (by kernel_rfl) (by kernel_rfl) (by kernel_rfl) (by kernel_rfl) (fun _ _ _ h => h) (by exact rfl) (fun _ hX => fun j u hj => Below.cell' hX (HRA.out j u hj)) Tryd.underlying26 rfl (by kernel_rfl) hHeld ?_
      simp only [Act.put, List.setIfInBounds_toArray, List.set_cons_zero, List.set_cons_succ]
      refine hLoad 18 26 (Operand.tmp 3) (some 40) (cs := [.int .i64 k', .int .i64 n', .slice A' d'.length ca', .slice B' c'.length cb']) (by kernel_rfl) (by kernel_rfl) (by kernel_rfl) (by kernel_rfl) (by kernel_rfl) (fun _ _ _ h => h) (by exact rfl) (fun _ hX => fun j u hj => Below.cell' hX (HRB.out j u hj)) Tryd.underlying26 rfl (by kernel_rfl) hHeld ?_
      simp only [Act.put, List.setIfInBounds_toArray, List.set_cons_zero, List.set_cons_succ]
      refine wpAnyH_ready (rs := [17]) (by kernel_rfl) (by simp) ?_
      refine rCall 17 (Op.call { callee := Callee.value (Operand.func 12), args := #[Operand.tmp 38], argTypes := #[26] }) (some 39) 12 (#[.agg ([.int .i64 k, .int .i64 n, .slice A d.length ca, .slice B c.length cb]).toArray]) (by kernel_rfl) (by kernel_rfl) (fun o ho => by unfold execOp; simp only [ho]; go_simp) ?_ AllReadyH.nil
      refine (HLA.out _ hHeld).mono ?_
      rintro e wP ⟨rfl, hbP⟩
      refine ⟨_, rfl, bstep hHeld hbP, fun hHeld => ?_⟩
      simp only [Act.put, List.setIfInBounds_toArray, List.set_cons_zero, List.set_cons_succ]
      refine wpAnyH_ready (rs := [19]) (by kernel_rfl) (by simp) ?_
      refine rCall 19 (Op.call { callee := Callee.value (Operand.func 12), args := #[Operand.tmp 40], argTypes := #[26] }) (some 41) 12 (#[.agg ([.int .i64 k', .int .i64 n', .slice A' d'.length ca', .slice B' c'.length cb']).toArray]) (by kernel_rfl) (by kernel_rfl) (fun o ho => by unfold execOp; simp only [ho]; go_simp) ?_ AllReadyH.nil
      refine (HLB.out _ hHeld).mono ?_
      rintro e wQ ⟨rfl, hbQ⟩
      refine ⟨_, rfl, bstep hHeld hbQ, fun hHeld => ?_⟩
      simp only [Act.put, List.setIfInBounds_toArray, List.set_cons_zero, List.set_cons_succ]
      refine hTake 20 (Op.binOp BinOp.eql 9 (Operand.tmp 39) (Operand.tmp 41) 9) (some 42) (.bool SM) (by kernel_rfl) (by kernel_rfl) (by kernel_rfl) (by kernel_rfl) (by kernel_rfl) (fun _ _ _ h => h) (fun o ho wX hX => by have heq := HEQ.out; unfold execOp; simp only [ho]; go_simp) hHeld ?_
      simp only [Act.put, List.setIfInBounds_toArray, List.set_cons_zero, List.set_cons_succ]
      refine hTake 21 (Op.binOp BinOp.eql 4 (Operand.tmp 37) (Operand.tmp 42) 4) (some 43) (.bool true) (by kernel_rfl) (by kernel_rfl) (by kernel_rfl) (by kernel_rfl) (by kernel_rfl) (fun _ _ _ h => h) (fun o ho wX hX => by have hss := HSS.out; unfold execOp; simp only [ho]; go_simp) hHeld ?_
      simp only [Act.put, List.setIfInBounds_toArray, List.set_cons_zero, List.set_cons_succ]
      refine hTake 22 (Op.pick (Operand.tmp 36) (Operand.const (Value.bool true)) (Operand.tmp 43)) (some 44) (.bool true) (by kernel_rfl) (by kernel_rfl) (by kernel_rfl) (by kernel_rfl) (by kernel_rfl) (fun _ _ _ h => h) (fun o ho wX hX => by unfold execOp; simp only [ho]; go_simp) hHeld ?_
      simp only [Act.put, List.setIfInBounds_toArray, List.set_cons_zero, List.set_cons_succ]
      refine hTake 23 (Op.pick (Operand.tmp 27) (Operand.tmp 44) (Operand.const (Value.bool false))) (some 45) (.bool true) (by kernel_rfl) (by kernel_rfl) (by kernel_rfl) (by kernel_rfl) (by kernel_rfl) (fun _ _ _ h => h) (fun o ho wX hX => by unfold execOp; simp only [ho]; go_simp) hHeld ?_
      simp only [Act.put, List.setIfInBounds_toArray, List.set_cons_zero, List.set_cons_succ]
      refine hTake 24 (Op.assign (Operand.tmp 45)) (some 4) (.bool true) (by kernel_rfl) (by kernel_rfl) (by kernel_rfl) (by kernel_rfl) (by kernel_rfl) (fun _ _ _ h => h) (fun o ho wX hX => by unfold execOp; simp only [ho]; go_simp) hHeld ?_
      simp only [Act.put, List.setIfInBounds_toArray, List.set_cons_zero, List.set_cons_succ]
      refine wpAnyH_done (by kernel_rfl) ?_ _
      go_wp2_with fail
      go_ret
      exact ⟨rfl, bstep HB4.out hHeld⟩
    · rw [rb] at HRRB
      clear hLA hLB HEQ0 ra rb
      refine held_start 25 (fun w3 => Below w4.heap.size w4 w3) (by kernel_rfl) (by kernel_rfl) ((Below.refl _ _).drew) (fun hHeld => ?_)
      refine hMove 0 (Operand.tmp 5) (some 22) (.bool SM) (by kernel_rfl) (by kernel_rfl) (by kernel_rfl) (by kernel_rfl) (by kernel_rfl) (fun _ _ _ h => h) (by exact rfl) hHeld ?_
      simp only [Act.put, List.setIfInBounds_toArray, List.set_cons_zero, List.set_cons_succ]
      refine hLoad 1 26 (Operand.tmp 2) (some 23) (cs := [.int .i64 k, .int .i64 n, .slice A d.length ca, .slice B c.length cb]) (by kernel_rfl) (by kernel_rfl) (by kernel_rfl) (by kernel_rfl) (by kernel_rfl) (fun _ _ _ h => h) (by exact rfl) (fun _ hX => fun j u hj => Below.cell' hX (HRA.out j u hj)) Tryd.underlying26 rfl (by kernel_rfl) hHeld ?_
      simp only [Act.put, List.setIfInBounds_toArray, List.set_cons_zero, List.set_cons_succ]
      refine hLoad 2 26 (Operand.tmp 3) (some 24) (cs := [.int .i64 k', .int .i64 n', .slice A' d'.length ca', .slice B' c'.length cb']) (by kernel_rfl) (by kernel_rfl) (by kernel_rfl) (by kernel_rfl) (by kernel_rfl) (fun _ _ _ h => h) (by exact rfl) (fun _ hX => fun j u hj => Below.cell' hX (HRB.out j u hj)) Tryd.underlying26 rfl (by kernel_rfl) hHeld ?_
      simp only [Act.put, List.setIfInBounds_toArray, List.set_cons_zero, List.set_cons_succ]
      refine wpAnyH_ready (rs := [3]) (by kernel_rfl) (by simp) ?_
      refine rCall 3 (Op.call { callee := Callee.value (Operand.func 11), args := #[Operand.tmp 23, Operand.tmp 24], argTypes := #[26, 26] }) (some 25) 11 (#[.agg ([.int .i64 k, .int .i64 n, .slice A d.length ca, .slice B c.length cb]).toArray, .agg ([.int .i64 k', .int .i64 n', .slice A' d'.length ca', .slice B' c'.length cb']).toArray]) (by kernel_rfl) (by kernel_rfl) (fun o ho => by unfold execOp; simp only [ho]; go_simp) ?_ AllReadyH.nil
      refine (HRS.out _ hHeld).mono ?_
      rintro e wM ⟨rfl, hbM⟩
      refine ⟨_, rfl, bstep hHeld hbM, fun hHeld => ?_⟩
      simp only [Act.put, List.setIfInBounds_toArray, List.set_cons_zero, List.set_cons_succ]
      refine hTake 4 (Op.binOp BinOp.eql 4 (Operand.tmp 22) (Operand.tmp 25) 4) (some 26) (.bool true) (by kernel_rfl) (by kernel_rfl) (by kernel_rfl) (by kernel_rfl) (by kernel_rfl) (fun _ _ _ h => h) (fun o ho wX hX => by have hss := HSS.out; unfold execOp; simp only [ho]; go_simp) hHeld ?_
      simp only [Act.put, List.setIfInBounds_toArray, List.set_cons_zero, List.set_cons_succ]
      refine hMove 5 (Operand.tmp 26) (some 27) (.bool true) (by kernel_rfl) (by kernel_rfl) (by kernel_rfl) (by kernel_rfl) (by kernel_rfl) (fun _ _ _ h => h) (by exact rfl) hHeld ?_
      simp only [Act.put, List.setIfInBounds_toArray, List.set_cons_zero, List.set_cons_succ]
      refine hLoad 6 26 (Operand.tmp 2) (some 28) (cs := [.int .i64 k, .int .i64 n, .slice A d.length ca, .slice B c.length cb]) (by kernel_rfl) (by kernel_rfl) (by kernel_rfl) (by kernel_rfl) (by kernel_rfl) (fun _ _ _ h => h) (by exact rfl) (fun _ hX => fun j u hj => Below.cell' hX (HRA.out j u hj)) Tryd.underlying26 rfl (by kernel_rfl) hHeld ?_
      simp only [Act.put, List.setIfInBounds_toArray, List.set_cons_zero, List.set_cons_succ]
      refine wpAnyH_ready (rs := [7]) (by kernel_rfl) (by simp) ?_
      refine rCall 7 (Op.call { callee := Callee.value (Operand.func 14), args := #[Operand.tmp 28], argTypes := #[26] }) (some 29) 14 (#[.agg ([.int .i64 k, .int .i64 n, .slice A d.length ca, .slice B c.length cb]).toArray]) (by kernel_rfl) (by kernel_rfl) (fun o ho => by unfold execOp; simp only [ho]; go_simp) ?_ AllReadyH.nil
      refine (HRRA.out _ hHeld).mono ?_
      rintro e wN ⟨rfl, hbN⟩
      refine ⟨_, rfl, bstep hHeld hbN, fun hHeld => ?_⟩
      simp only [Act.put, List.setIfInBounds_toArray, List.set_cons_zero, List.set_cons_succ]
      refine hTake 8 (Op.unOp UnOp.not 4 (Operand.tmp 29)) (some 30) (.bool false) (by kernel_rfl) (by kernel_rfl) (by kernel_rfl) (by kernel_rfl) (by kernel_rfl) (fun _ _ _ h => h) (fun o ho wX hX => by unfold execOp; simp only [ho]; go_simp) hHeld ?_
      simp only [Act.put, List.setIfInBounds_toArray, List.set_cons_zero, List.set_cons_succ]
      refine hMove 9 (Operand.tmp 30) (some 31) (.bool false) (by kernel_rfl) (by kernel_rfl) (by kernel_rfl) (by kernel_rfl) (by kernel_rfl) (fun _ _ _ h => h) (by exact rfl) hHeld ?_
      simp only [Act.put, List.setIfInBounds_toArray, List.set_cons_zero, List.set_cons_succ]
      refine hLoad 10 26 (Operand.tmp 3) (some 32) (cs := [.int .i64 k', .int .i64 n', .slice A' d'.length ca', .slice B' c'.length cb']) (by kernel_rfl) (by kernel_rfl) (by kernel_rfl) (by kernel_rfl) (by kernel_rfl) (fun _ _ _ h => h) (by exact rfl) (fun _ hX => fun j u hj => Below.cell' hX (HRB.out j u hj)) Tryd.underlying26 rfl (by kernel_rfl) hHeld ?_
      simp only [Act.put, List.setIfInBounds_toArray, List.set_cons_zero, List.set_cons_succ]
      refine wpAnyH_ready (rs := [11]) (by kernel_rfl) (by simp) ?_
      refine rCall 11 (Op.call { callee := Callee.value (Operand.func 14), args := #[Operand.tmp 32], argTypes := #[26] }) (some 33) 14 (#[.agg ([.int .i64 k', .int .i64 n', .slice A' d'.length ca', .slice B' c'.length cb']).toArray]) (by kernel_rfl) (by kernel_rfl) (fun o ho => by unfold execOp; simp only [ho]; go_simp) ?_ AllReadyH.nil
      refine (HRRB.out _ hHeld).mono ?_
      rintro e wO ⟨rfl, hbO⟩
      refine ⟨_, rfl, bstep hHeld hbO, fun hHeld => ?_⟩
      simp only [Act.put, List.setIfInBounds_toArray, List.set_cons_zero, List.set_cons_succ]
      refine hTake 12 (Op.unOp UnOp.not 4 (Operand.tmp 33)) (some 34) (.bool true) (by kernel_rfl) (by kernel_rfl) (by kernel_rfl) (by kernel_rfl) (by kernel_rfl) (fun _ _ _ h => h) (fun o ho wX hX => by unfold execOp; simp only [ho]; go_simp) hHeld ?_
      simp only [Act.put, List.setIfInBounds_toArray, List.set_cons_zero, List.set_cons_succ]
      refine hTake 13 (Op.pick (Operand.tmp 31) (Operand.const (Value.bool true)) (Operand.tmp 34)) (some 35) (.bool true) (by kernel_rfl) (by kernel_rfl) (by kernel_rfl) (by kernel_rfl) (by kernel_rfl) (fun _ _ _ h => h) (fun o ho wX hX => by unfold execOp; simp only [ho]; go_simp) hHeld ?_
      simp only [Act.put, List.setIfInBounds_toArray, List.set_cons_zero, List.set_cons_succ]
      refine hMove 14 (Operand.tmp 35) (some 36) (.bool true) (by kernel_rfl) (by kernel_rfl) (by kernel_rfl) (by kernel_rfl) (by kernel_rfl) (fun _ _ _ h => h) (by exact rfl) hHeld ?_
      simp only [Act.put, List.setIfInBounds_toArray, List.set_cons_zero, List.set_cons_succ]
      refine hSkip 15 (some 37) (by kernel_rfl) (by kernel_rfl) (by kernel_rfl) (by kernel_rfl) (by kernel_rfl) (fun _ _ _ h => h) hHeld ?_
      simp only [Act.put, List.setIfInBounds_toArray, List.set_cons_zero, List.set_cons_succ]
      refine hSkip 16 (some 38) (by kernel_rfl) (by kernel_rfl) (by kernel_rfl) (by kernel_rfl) (by kernel_rfl) (fun _ _ _ h => h) hHeld ?_
      simp only [Act.put, List.setIfInBounds_toArray, List.set_cons_zero, List.set_cons_succ]
      refine hSkip 18 (some 40) (by kernel_rfl) (by kernel_rfl) (by kernel_rfl) (by kernel_rfl) (by kernel_rfl) (fun _ _ _ h => h) hHeld ?_
      simp only [Act.put, List.setIfInBounds_toArray, List.set_cons_zero, List.set_cons_succ]
      refine hSkip 17 (some 39) (by kernel_rfl) (by kernel_rfl) (by kernel_rfl) (by kernel_rfl) (by kernel_rfl) (fun _ _ _ h => h) hHeld ?_
      simp only [Act.put, List.setIfInBounds_toArray, List.set_cons_zero, List.set_cons_succ]
      refine hSkip 19 (some 41) (by kernel_rfl) (by kernel_rfl) (by kernel_rfl) (by kernel_rfl) (by kernel_rfl) (fun _ _ _ h => h) hHeld ?_
      simp only [Act.put, List.setIfInBounds_toArray, List.set_cons_zero, List.set_cons_succ]
      refine hSkip 20 (some 42) (by kernel_rfl) (by kernel_rfl) (by kernel_rfl) (by kernel_rfl) (by kernel_rfl) (fun _ _ _ h => h) hHeld ?_
      simp only [Act.put, List.setIfInBounds_toArray, List.set_cons_zero, List.set_cons_succ]
      refine hSkip 21 (some 43) (by kernel_rfl) (by kernel_rfl) (by kernel_rfl) (by kernel_rfl) (by kernel_rfl) (fun _ _ _ h => h) hHeld ?_
      simp only [Act.put, List.setIfInBounds_toArray, List.set_cons_zero, List.set_cons_succ]
      refine hTake 22 (Op.pick (Operand.tmp 36) (Operand.const (Value.bool true)) (Operand.tmp 43)) (some 44) (.bool true) (by kernel_rfl) (by kernel_rfl) (by kernel_rfl) (by kernel_rfl) (by kernel_rfl) (fun _ _ _ h => h) (fun o ho wX hX => by unfold execOp; simp only [ho]; go_simp) hHeld ?_
      simp only [Act.put, List.setIfInBounds_toArray, List.set_cons_zero, List.set_cons_succ]
      refine hTake 23 (Op.pick (Operand.tmp 27) (Operand.tmp 44) (Operand.const (Value.bool false))) (some 45) (.bool true) (by kernel_rfl) (by kernel_rfl) (by kernel_rfl) (by kernel_rfl) (by kernel_rfl) (fun _ _ _ h => h) (fun o ho wX hX => by unfold execOp; simp only [ho]; go_simp) hHeld ?_
      simp only [Act.put, List.setIfInBounds_toArray, List.set_cons_zero, List.set_cons_succ]
      refine hTake 24 (Op.assign (Operand.tmp 45)) (some 4) (.bool true) (by kernel_rfl) (by kernel_rfl) (by kernel_rfl) (by kernel_rfl) (by kernel_rfl) (fun _ _ _ h => h) (fun o ho wX hX => by unfold execOp; simp only [ho]; go_simp) hHeld ?_
      simp only [Act.put, List.setIfInBounds_toArray, List.set_cons_zero, List.set_cons_succ]
      refine wpAnyH_done (by kernel_rfl) ?_ _
      go_wp2_with fail
      go_ret
      exact ⟨rfl, bstep HB4.out hHeld⟩
  · rw [ra] at HRRA
    clear hLA hLB HEQ0 ra
    refine held_start 25 (fun w3 => Below w4.heap.size w4 w3) (by kernel_rfl) (by kernel_rfl) ((Below.refl _ _).drew) (fun hHeld => ?_)
    refine hMove 0 (Operand.tmp 5) (some 22) (.bool SM) (by kernel_rfl) (by kernel_rfl) (by kernel_rfl) (by kernel_rfl) (by kernel_rfl) (fun _ _ _ h => h) (by exact rfl) hHeld ?_
    simp only [Act.put, List.setIfInBounds_toArray, List.set_cons_zero, List.set_cons_succ]
    refine hLoad 1 26 (Operand.tmp 2) (some 23) (cs := [.int .i64 k, .int .i64 n, .slice A d.length ca, .slice B c.length cb]) (by kernel_rfl) (by kernel_rfl) (by kernel_rfl) (by kernel_rfl) (by kernel_rfl) (fun _ _ _ h => h) (by exact rfl) (fun _ hX => fun j u hj => Below.cell' hX (HRA.out j u hj)) Tryd.underlying26 rfl (by kernel_rfl) hHeld ?_
    simp only [Act.put, List.setIfInBounds_toArray, List.set_cons_zero, List.set_cons_succ]
    refine hLoad 2 26 (Operand.tmp 3) (some 24) (cs := [.int .i64 k', .int .i64 n', .slice A' d'.length ca', .slice B' c'.length cb']) (by kernel_rfl) (by kernel_rfl) (by kernel_rfl) (by kernel_rfl) (by kernel_rfl) (fun _ _ _ h => h) (by exact rfl) (fun _ hX => fun j u hj => Below.cell' hX (HRB.out j u hj)) Tryd.underlying26 rfl (by kernel_rfl) hHeld ?_
    simp only [Act.put, List.setIfInBounds_toArray, List.set_cons_zero, List.set_cons_succ]
    refine wpAnyH_ready (rs := [3]) (by kernel_rfl) (by simp) ?_
    refine rCall 3 (Op.call { callee := Callee.value (Operand.func 11), args := #[Operand.tmp 23, Operand.tmp 24], argTypes := #[26, 26] }) (some 25) 11 (#[.agg ([.int .i64 k, .int .i64 n, .slice A d.length ca, .slice B c.length cb]).toArray, .agg ([.int .i64 k', .int .i64 n', .slice A' d'.length ca', .slice B' c'.length cb']).toArray]) (by kernel_rfl) (by kernel_rfl) (fun o ho => by unfold execOp; simp only [ho]; go_simp) ?_ AllReadyH.nil
    refine (HRS.out _ hHeld).mono ?_
    rintro e wM ⟨rfl, hbM⟩
    refine ⟨_, rfl, bstep hHeld hbM, fun hHeld => ?_⟩
    simp only [Act.put, List.setIfInBounds_toArray, List.set_cons_zero, List.set_cons_succ]
    refine hTake 4 (Op.binOp BinOp.eql 4 (Operand.tmp 22) (Operand.tmp 25) 4) (some 26) (.bool true) (by kernel_rfl) (by kernel_rfl) (by kernel_rfl) (by kernel_rfl) (by kernel_rfl) (fun _ _ _ h => h) (fun o ho wX hX => by have hss := HSS.out; unfold execOp; simp only [ho]; go_simp) hHeld ?_
    simp only [Act.put, List.setIfInBounds_toArray, List.set_cons_zero, List.set_cons_succ]
    refine hMove 5 (Operand.tmp 26) (some 27) (.bool true) (by kernel_rfl) (by kernel_rfl) (by kernel_rfl) (by kernel_rfl) (by kernel_rfl) (fun _ _ _ h => h) (by exact rfl) hHeld ?_
    simp only [Act.put, List.setIfInBounds_toArray, List.set_cons_zero, List.set_cons_succ]
    refine hLoad 6 26 (Operand.tmp 2) (some 28) (cs := [.int .i64 k, .int .i64 n, .slice A d.length ca, .slice B c.length cb]) (by kernel_rfl) (by kernel_rfl) (by kernel_rfl) (by kernel_rfl) (by kernel_rfl) (fun _ _ _ h => h) (by exact rfl) (fun _ hX => fun j u hj => Below.cell' hX (HRA.out j u hj)) Tryd.underlying26 rfl (by kernel_rfl) hHeld ?_
    simp only [Act.put, List.setIfInBounds_toArray, List.set_cons_zero, List.set_cons_succ]
    refine wpAnyH_ready (rs := [7]) (by kernel_rfl) (by simp) ?_
    refine rCall 7 (Op.call { callee := Callee.value (Operand.func 14), args := #[Operand.tmp 28], argTypes := #[26] }) (some 29) 14 (#[.agg ([.int .i64 k, .int .i64 n, .slice A d.length ca, .slice B c.length cb]).toArray]) (by kernel_rfl) (by kernel_rfl) (fun o ho => by unfold execOp; simp only [ho]; go_simp) ?_ AllReadyH.nil
    refine (HRRA.out _ hHeld).mono ?_
    rintro e wN ⟨rfl, hbN⟩
    refine ⟨_, rfl, bstep hHeld hbN, fun hHeld => ?_⟩
    simp only [Act.put, List.setIfInBounds_toArray, List.set_cons_zero, List.set_cons_succ]
    refine hTake 8 (Op.unOp UnOp.not 4 (Operand.tmp 29)) (some 30) (.bool true) (by kernel_rfl) (by kernel_rfl) (by kernel_rfl) (by kernel_rfl) (by kernel_rfl) (fun _ _ _ h => h) (fun o ho wX hX => by unfold execOp; simp only [ho]; go_simp) hHeld ?_
    simp only [Act.put, List.setIfInBounds_toArray, List.set_cons_zero, List.set_cons_succ]
    refine hMove 9 (Operand.tmp 30) (some 31) (.bool true) (by kernel_rfl) (by kernel_rfl) (by kernel_rfl) (by kernel_rfl) (by kernel_rfl) (fun _ _ _ h => h) (by exact rfl) hHeld ?_
    simp only [Act.put, List.setIfInBounds_toArray, List.set_cons_zero, List.set_cons_succ]
    refine hSkip 10 (some 32) (by kernel_rfl) (by kernel_rfl) (by kernel_rfl) (by kernel_rfl) (by kernel_rfl) (fun _ _ _ h => h) hHeld ?_
    simp only [Act.put, List.setIfInBounds_toArray, List.set_cons_zero, List.set_cons_succ]
    refine hSkip 11 (some 33) (by kernel_rfl) (by kernel_rfl) (by kernel_rfl) (by kernel_rfl) (by kernel_rfl) (fun _ _ _ h => h) hHeld ?_
    simp only [Act.put, List.setIfInBounds_toArray, List.set_cons_zero, List.set_cons_succ]
    refine hSkip 12 (some 34) (by kernel_rfl) (by kernel_rfl) (by kernel_rfl) (by kernel_rfl) (by kernel_rfl) (fun _ _ _ h => h) hHeld ?_
    simp only [Act.put, List.setIfInBounds_toArray, List.set_cons_zero, List.set_cons_succ]
    refine hTake 13 (Op.pick (Operand.tmp 31) (Operand.const (Value.bool true)) (Operand.tmp 34)) (some 35) (.bool true) (by kernel_rfl) (by kernel_rfl) (by kernel_rfl) (by kernel_rfl) (by kernel_rfl) (fun _ _ _ h => h) (fun o ho wX hX => by unfold execOp; simp only [ho]; go_simp) hHeld ?_
    simp only [Act.put, List.setIfInBounds_toArray, List.set_cons_zero, List.set_cons_succ]
    refine hMove 14 (Operand.tmp 35) (some 36) (.bool true) (by kernel_rfl) (by kernel_rfl) (by kernel_rfl) (by kernel_rfl) (by kernel_rfl) (fun _ _ _ h => h) (by exact rfl) hHeld ?_
    simp only [Act.put, List.setIfInBounds_toArray, List.set_cons_zero, List.set_cons_succ]
    refine hSkip 15 (some 37) (by kernel_rfl) (by kernel_rfl) (by kernel_rfl) (by kernel_rfl) (by kernel_rfl) (fun _ _ _ h => h) hHeld ?_
    simp only [Act.put, List.setIfInBounds_toArray, List.set_cons_zero, List.set_cons_succ]
    refine hSkip 16 (some 38) (by kernel_rfl) (by kernel_rfl) (by kernel_rfl) (by kernel_rfl) (by kernel_rfl) (fun _ _ _ h => h) hHeld ?_
    simp only [Act.put, List.setIfInBounds_toArray, List.set_cons_zero, List.set_cons_succ]
    refine hSkip 18 (some 40) (by kernel_rfl) (by kernel_rfl) (by kernel_rfl) (by kernel_rfl) (by kernel_rfl) (fun _ _ _ h => h) hHeld ?_
    simp only [Act.put, List.setIfInBounds_toArray, List.set_cons_zero, List.set_cons_succ]
    refine hSkip 17 (some 39) (by kernel_rfl) (by kernel_rfl) (by kernel_rfl) (by kernel_rfl) (by kernel_rfl) (fun _ _ _ h => h) hHeld ?_
    simp only [Act.put, List.setIfInBounds_toArray, List.set_cons_zero, List.set_cons_succ]
    refine hSkip 19 (some 41) (by kernel_rfl) (by kernel_rfl) (by kernel_rfl) (by kernel_rfl) (by kernel_rfl) (fun _ _ _ h => h) hHeld ?_
    simp only [Act.put, List.setIfInBounds_toArray, List.set_cons_zero, List.set_cons_succ]
    refine hSkip 20 (some 42) (by kernel_rfl) (by kernel_rfl) (by kernel_rfl) (by kernel_rfl) (by kernel_rfl) (fun _ _ _ h => h) hHeld ?_
    simp only [Act.put, List.setIfInBounds_toArray, List.set_cons_zero, List.set_cons_succ]
    refine hSkip 21 (some 43) (by kernel_rfl) (by kernel_rfl) (by kernel_rfl) (by kernel_rfl) (by kernel_rfl) (fun _ _ _ h => h) hHeld ?_
    simp only [Act.put, List.setIfInBounds_toArray, List.set_cons_zero, List.set_cons_succ]
    refine hTake 22 (Op.pick (Operand.tmp 36) (Operand.const (Value.bool true)) (Operand.tmp 43)) (some 44) (.bool true) (by kernel_rfl) (by kernel_rfl) (by kernel_rfl) (by kernel_rfl) (by kernel_rfl) (fun _ _ _ h => h) (fun o ho wX hX => by unfold execOp; simp only [ho]; go_simp) hHeld ?_
    simp only [Act.put, List.setIfInBounds_toArray, List.set_cons_zero, List.set_cons_succ]
    refine hTake 23 (Op.pick (Operand.tmp 27) (Operand.tmp 44) (Operand.const (Value.bool false))) (some 45) (.bool true) (by kernel_rfl) (by kernel_rfl) (by kernel_rfl) (by kernel_rfl) (by kernel_rfl) (fun _ _ _ h => h) (fun o ho wX hX => by unfold execOp; simp only [ho]; go_simp) hHeld ?_
    simp only [Act.put, List.setIfInBounds_toArray, List.set_cons_zero, List.set_cons_succ]
    refine hTake 24 (Op.assign (Operand.tmp 45)) (some 4) (.bool true) (by kernel_rfl) (by kernel_rfl) (by kernel_rfl) (by kernel_rfl) (by kernel_rfl) (fun _ _ _ h => h) (fun o ho wX hX => by unfold execOp; simp only [ho]; go_simp) hHeld ?_
    simp only [Act.put, List.setIfInBounds_toArray, List.set_cons_zero, List.set_cons_succ]
    refine wpAnyH_done (by kernel_rfl) ?_ _
    go_wp2_with fail
    go_ret
    exact ⟨rfl, bstep HB4.out hHeld⟩
end Go.Proofs.YtdpogklblalcaaaDoor
