/- script.Same and the reference's Same. -/
import Derived.Test.YtmaifldiondchaaDoorScrC
namespace Go.Proofs.YtmaifldiondchaaDoor
open Go.RowKit
set_option linter.unusedSimpArgs false

def sameB (a b : OpD) : Bool := a.kind == b.kind && (a.n == b.n && (decide (a.data = b.data) && decide (a.cuts = b.cuts)))
theorem sameB_iff (a b : OpD) : sameB a b = true ↔ a = b := by
  cases a; cases b
  simp [sameB]

set_option maxRecDepth 100000 in
set_option maxHeartbeats 4000000 in
theorem same_any (k n k' n' : Int) (d d' : Bs) (c c' : List Int) (A A' B B' : Option Addr) (ca ca' cb cb' : Nat) (w : World)
    (hd : Sn w 1 (.slice A d.length ca) d.length (Lib.byteCells d)) (hd' : Sn w 1 (.slice A' d'.length ca') d'.length (Lib.byteCells d'))
    (hc : Sn w 1 (.slice B c.length cb) c.length (intC c)) (hc' : Sn w 1 (.slice B' c'.length cb') c'.length (intC c'))
    (hcm : c.length ≤ 9223372036854775807) :
    Calls Tryd.prog 19 #[.agg #[.int .i64 k, .int .i64 n, .slice A d.length ca, .slice B c.length cb], .agg #[.int .i64 k', .int .i64 n', .slice A' d'.length ca', .slice B' c'.length cb']] w fun e w' => e = .returned (.bool (sameB ⟨k, n, d, c⟩ ⟨k', n', d', c'⟩)) ∧ Below w.heap.size w w' := by
  have HD := Lib.hid hd
  have HD' := Lib.hid hd'
  have HC := Lib.hid hc
  have HC' := Lib.hid hc'
  clear hd hd' hc hc'
  have HQ : Hid (sameB ⟨k, n, d, c⟩ ⟨k', n', d', c'⟩ = ((k == k') && ((n == n') && (decide (d = d') && decide (c = c'))))) := Lib.hid rfl
  rcases Bool.eq_false_or_eq_true (k == k') with t1 | t1
  rotate_left 1
  · have HV : Hid (sameB ⟨k, n, d, c⟩ ⟨k', n', d', c'⟩ = false) := Lib.hid (by rw [HQ.out, t1]; rfl)
    clear HQ
    go_enter Tryd.func19, Tryd.ntmps19
    go_wp2_with fail
    go_ret
    exact ⟨by rw [HV.out]; rfl, bstep (bel1 _ _) (bel1 _ _)⟩
  rcases Bool.eq_false_or_eq_true (n == n') with t2 | t2
  rotate_left 1
  · have HV : Hid (sameB ⟨k, n, d, c⟩ ⟨k', n', d', c'⟩ = false) := Lib.hid (by rw [HQ.out, t1, t2]; rfl)
    clear HQ
    go_enter Tryd.func19, Tryd.ntmps19
    go_wp2_with fail
    go_ret
    exact ⟨by rw [HV.out]; rfl, bstep (bel1 _ _) (bel1 _ _)⟩
  have HEQ : ∀ (w1 : World), Below w.heap.size w w1 → _ := fun w1 hb => bytesEq_any d d' A A' ca ca' w1 (HD.out.below hb) (HD'.out.below hb)
  have HEI : ∀ (w1 : World), Below w.heap.size w w1 → _ := fun w1 hb => intsEq_any c c' B B' cb cb' w1 (HC.out.below hb) (HC'.out.below hb) hcm
  obtain ⟨DB, hDB⟩ : ∃ DB, DB = decide (d = d') := ⟨_, rfl⟩
  obtain ⟨CB, hCB⟩ : ∃ CB, CB = decide (c = c') := ⟨_, rfl⟩
  rw [← hDB] at HEQ
  rw [← hCB] at HEI
  have HV : Hid (sameB ⟨k, n, d, c⟩ ⟨k', n', d', c'⟩ = (DB && CB)) := Lib.hid (by rw [HQ.out, t1, t2, hDB, hCB]; rfl)
  have HEQ := Lib.hid HEQ
  have HEI := Lib.hid HEI
  clear HQ hDB hCB
  cases DB with
  | false =>
    go_enter Tryd.func19, Tryd.ntmps19
    go_wp2_with (go_at_call 39; refine (HEQ.out _ (bstep (bel1 _ _) (bel1 _ _))).mono ?_; rintro e w' ⟨rfl, rfl⟩)
    go_ret
    exact ⟨by rw [HV.out]; rfl, bstep (bel1 _ _) (bel1 _ _)⟩
  | true =>
    go_enter Tryd.func19, Tryd.ntmps19
    go_wp2_with (first
      | (go_at_call 39; refine (HEQ.out _ (bstep (bel1 _ _) (bel1 _ _))).mono ?_; rintro e w' ⟨rfl, rfl⟩)
      | (go_at_call 40; refine (HEI.out _ (bstep (bel1 _ _) (bel1 _ _))).mono ?_; rintro e w' ⟨rfl, dn, rfl⟩))
    go_ret
    exact ⟨by rw [HV.out]; rfl, bdrewN (bstep (bel1 _ _) (bel1 _ _)) _⟩

set_option maxRecDepth 100000 in
set_option maxHeartbeats 4000000 in
theorem refSame_any (k n k' n' : Int) (d d' : Bs) (c c' : List Int) (A A' B B' : Option Addr) (ca ca' cb cb' : Nat) (w : World)
    (hd : Sn w 1 (.slice A d.length ca) d.length (Lib.byteCells d)) (hd' : Sn w 1 (.slice A' d'.length ca') d'.length (Lib.byteCells d'))
    (hc : Sn w 1 (.slice B c.length cb) c.length (intC c)) (hc' : Sn w 1 (.slice B' c'.length cb') c'.length (intC c'))
    (hcm : c.length ≤ 9223372036854775807) (hdm : d.length ≤ 9223372036854775807) :
    Calls Tryd.prog 11 #[.agg #[.int .i64 k, .int .i64 n, .slice A d.length ca, .slice B c.length cb], .agg #[.int .i64 k', .int .i64 n', .slice A' d'.length ca', .slice B' c'.length cb']] w fun e w' => e = .returned (.bool (sameB ⟨k, n, d, c⟩ ⟨k', n', d', c'⟩)) ∧ Below w.heap.size w w' := by
  have HD := Lib.hid hd
  have HD' := Lib.hid hd'
  have HC := Lib.hid hc
  have HC' := Lib.hid hc'
  clear hd hd' hc hc'
  have HQ : Hid (sameB ⟨k, n, d, c⟩ ⟨k', n', d', c'⟩ = ((k == k') && ((n == n') && (decide (d = d') && decide (c = c'))))) := Lib.hid rfl
  rcases Bool.eq_false_or_eq_true (k != k') with t1 | t1
  · have HV : Hid (sameB ⟨k, n, d, c⟩ ⟨k', n', d', c'⟩ = false) := Lib.hid (by rw [HQ.out, show (k == k') = false by simpa using t1]; rfl)
    clear HQ
    go_enter Tryd.func11, Tryd.ntmps11
    go_wp2_with fail
    go_ret
    exact ⟨by rw [HV.out]; rfl, bstep (bel1 _ _) (bel1 _ _)⟩
  rcases Bool.eq_false_or_eq_true (n != n') with t2 | t2
  · have HV : Hid (sameB ⟨k, n, d, c⟩ ⟨k', n', d', c'⟩ = false) := Lib.hid (by rw [HQ.out, show (n == n') = false by simpa using t2]; simp)
    clear HQ
    go_enter Tryd.func11, Tryd.ntmps11
    go_wp2_with fail
    go_ret
    exact ⟨by rw [HV.out]; rfl, bstep (bel1 _ _) (bel1 _ _)⟩
  have HEQ : ∀ (w1 : World), Below w.heap.size w w1 → _ := fun w1 hb => refEqB_any d d' A A' ca ca' w1 (HD.out.below hb) (HD'.out.below hb) hdm
  obtain ⟨DB, hDB⟩ : ∃ DB, DB = decide (d = d') := ⟨_, rfl⟩
  rw [← hDB] at HEQ
  have HV : Hid (sameB ⟨k, n, d, c⟩ ⟨k', n', d', c'⟩ = (DB && decide (c = c'))) := Lib.hid (by rw [HQ.out, show (k == k') = true by simpa using t1, show (n == n') = true by simpa using t2, hDB]; rfl)
  have HEQ := Lib.hid HEQ
  clear HQ hDB
  cases DB with
  | false =>
    go_enter Tryd.func11, Tryd.ntmps11
    go_wp2_with (go_at_call 28; refine (HEQ.out _ (bstep (bel1 _ _) (bel1 _ _))).mono ?_; rintro e w' ⟨rfl, dn, rfl⟩)
    go_ret
    exact ⟨by rw [HV.out]; rfl, bdrewN (bstep (bel1 _ _) (bel1 _ _)) _⟩
  | true =>
    rcases Bool.eq_false_or_eq_true ((c.length : Int) != (c'.length : Int)) with t3 | t3
    · have HF : Hid (decide (c = c') = false) := Lib.hid (decide_eq_false fun e => by rw [e] at t3; simp at t3)
      go_enter Tryd.func11, Tryd.ntmps11
      go_wp2_with (go_at_call 28; refine (HEQ.out _ (bstep (bel1 _ _) (bel1 _ _))).mono ?_; rintro e w' ⟨rfl, dn, rfl⟩)
      go_ret
      exact ⟨by rw [HV.out, HF.out]; rfl, bdrewN (bstep (bel1 _ _) (bel1 _ _)) _⟩
    · have HLEN : Hid (c.length = c'.length) := Lib.hid (by have h : (c.length : Int) = (c'.length : Int) := by simpa using t3
                                                            omega)
      go_enter Tryd.func11, Tryd.ntmps11
      go_wp2_with (go_at_call 28; refine (HEQ.out _ (bstep (bel1 _ _) (bel1 _ _))).mono ?_; rintro e w' ⟨rfl, dn, rfl⟩)
      go_loopw [5] (fun i wr => ∃ j : Nat, j ≤ c.length ∧ i = .int .i64 j ∧ Hid (c.take j = c'.take j) ∧ Hid (Below w.heap.size w wr) ∧ Blk wr w.heap.size 26 #[.int .i64 k, .int .i64 n, .slice A d.length ca, .slice B c.length cb] ∧ Blk wr (w.heap.size + 1) 26 #[.int .i64 k', .int .i64 n', .slice A' d'.length ca', .slice B' c'.length cb']) (fun i _ => c.length - (intOf i).toNat)
      case atStart => exact ⟨0, Nat.zero_le _, rfl, Lib.hid rfl, Lib.hid (bdrewN (bstep (bel1 _ _) (bel1 _ _)) _), ((Blk.new _ _ _).alloc _).drewN _, (Blk.newAt _ _ _ _ (by simp)).drewN _⟩
      case round =>
        obtain ⟨j, hj, rfl, HE, HB, hk1, hk2⟩ := hrel
        have b3 := hk1.cell 3
        have b3' := hk2.cell 3
        simp only [List.getElem?_toArray, List.getElem?_cons_succ, List.getElem?_cons_zero] at b3 b3'
        have HK1 := Lib.hid hk1
        have HK2 := Lib.hid hk2
        clear hk1 hk2
        rcases Nat.lt_or_ge j c.length with hlt | hge
        · have hlt' : j < c'.length := HLEN.out ▸ hlt
          obtain ⟨b, off, eA, c0⟩ := at_int (HC.out.below HB.out) j hlt
          obtain ⟨b', off', eB, d0⟩ := at_int (HC'.out.below HB.out) j hlt'
          subst eA eB
          have hi0 : (0 : Int) ≤ j := by omega
          have hi1 : (j : Int) < c.length := by omega
          have hi2 : (j : Int) < c'.length := by omega
          have HST := Lib.hid (list_eq_step c c' HLEN.out j hlt HE.out)
          obtain ⟨x, hx⟩ : ∃ x, x = c[j] := ⟨_, rfl⟩
          obtain ⟨y, hy⟩ : ∃ y, y = c'[j] := ⟨_, rfl⟩
          rw [← hx] at c0 HST
          rw [← hy] at d0 HST
          have HX := Lib.hid hx
          have HY := Lib.hid hy
          clear hx hy
          rcases Bool.eq_false_or_eq_true (x != y) with e1 | e1
          · have HXY : Hid (x ≠ y) := Lib.hid (by simpa using e1)
            go_wp2_with fail
            go_quiet (fail)
            go_wp2_with fail
            go_ret
            refine ⟨?_, bdrewN HB.out _⟩
            rw [HV.out, decide_eq_false (fun e => HXY.out (by rw [HX.out, HY.out]; simp [e]))]
            rfl
          · have HXY : Hid (x = y) := Lib.hid (by simpa using e1)
            go_wp2_with fail
            go_quiet (fail)
            go_wp2_with fail
            exact ⟨⟨j + 1, by omega, by go_num, Lib.hid (HST.out HXY.out), Lib.hid (bdrewN HB.out _), HK1.out.drewN _, HK2.out.drewN _⟩, by simp [intOf]; omega⟩
        · obtain rfl : j = c.length := by omega
          have hfe : c = c' := by
            have := HE.out
            rw [List.take_length, HLEN.out, List.take_length] at this
            exact this
          have HF := Lib.hid hfe
          clear hfe
          go_wp2_with fail
          go_ret
          exact ⟨by rw [HV.out, decide_eq_true HF.out]; rfl, HB.out⟩
end Go.Proofs.YtmaifldiondchaaDoor
