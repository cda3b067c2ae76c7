/- The law ScriptPrints: its walk. -/
import Derived.Test.YtmaifldiondchaaDoorLaw24d
import Derived.Test.YtmaifldiondchaaDoorRLine
namespace Go.Proofs.YtmaifldiondchaaDoor
open Go.RowKit
attribute [local irreducible] wpAnyH wpQuiet
set_option linter.unusedSimpArgs false

theorem printT_len : ∀ L : List OpD, (∀ o ∈ L, o.data.length ≤ 500 ∧ o.cuts.length ≤ 50) → (printT L).length ≤ 3001 * L.length
  | [], _ => Nat.le_refl _
  | o :: L, h => by
    have h1 := line_len o (h o (by simp)).1 (h o (by simp)).2
    have h2 := printT_len L (fun p hp => h p (by simp [hp]))
    rw [print_cons]
    simp only [List.length_append, List.length_cons]
    omega
theorem all_take_snoc {R : List OpR} (j : Nat) (h : j < R.length) : (opsOf (R.take (j + 1))).all rightB = ((opsOf (R.take j)).all rightB && rightB R[j].o) := by
  unfold opsOf
  rw [List.take_succ_eq_append_getElem h, List.map_append, List.all_append]
  simp
theorem printR_false {L : List OpD} (h : L.all rightB = false) : printR L = ([], false) := by unfold printR; rw [h]; rfl
theorem printR_true {L : List OpD} (h : L.all rightB = true) : printR L = (printT L, true) := by unfold printR; rw [h]; rfl

set_option maxRecDepth 100000 in
set_option maxHeartbeats 16000000 in
theorem printsLaw_any (l : List OpR) (A : Option Addr) (cap : Nat) (w : World) (ht : Tab w) (hml : ML w) (hs : Sn w 4 (.slice A l.length cap) l.length (l.flatMap opC)) (hin : ∀ x ∈ l, OpI w x) (hd : ∀ x ∈ l, x.o.data.length ≤ 9223372036854775807 ∧ x.o.cuts.length ≤ 9223372036854775807) (hlm : l.length ≤ 9223372036854775807) :
    Calls Tryd.prog 4 #[.slice A l.length cap] w fun e w' => e = .returned (.bool true) ∧ Below w.heap.size w w' := by
  have HT := Lib.hid ht
  have HML := Lib.hid hml
  have HS := Lib.hid hs
  have HIN := Lib.hid hin
  have HD := Lib.hid hd
  clear ht hml hs hin hd
  rcases Bool.eq_false_or_eq_true (decide ((30 : Int) < l.length)) with t1 | t1
  · go_enter Tryd.func4, Tryd.ntmps4
    go_wp2_with (first
      | (go_at_call 8; refine (awake_any w1 (HT.out.below HB1.out) (HML.out.below HB1.out)).mono ?_; rintro e wz ⟨rfl, hbz⟩; have HBZ := Lib.hid (bstep HB1.out hbz); clear hbz)
      | (go_at_call 8; refine (awake_any w HT.out HML.out).mono ?_; rintro e w1 ⟨rfl, hb1⟩; have HB1 := Lib.hid hb1; clear hb1))
    go_ret
    exact ⟨rfl, HBZ.out⟩
  have hl : l.length ≤ 30 := by have := of_decide_eq_false t1; omega
  go_enter Tryd.func4, Tryd.ntmps4
  go_wp2_with (go_at_call 8; refine (awake_any w HT.out HML.out).mono ?_; rintro e w1 ⟨rfl, hb1⟩; have HB1 := Lib.hid hb1; clear hb1)
  go_loopw [3, 4, 5] (fun want right i wr => ∃ (j : Nat) (L : Bs) (rb : Bool), j ≤ l.length ∧ want = .string (SB L) ∧ right = .bool rb ∧ i = .int .i64 (j : Int) ∧ Hid (L = printT (opsOf (l.take j)) ∧ rb = (opsOf (l.take j)).all rightB ∧ ∀ x ∈ l.take j, x.o.data.length ≤ 500 ∧ x.o.cuts.length ≤ 50) ∧ Hid (Below w.heap.size w wr)) (fun _ _ i _ => l.length - (intOf i).toNat)
  case atStart => exact ⟨0, [], true, Nat.zero_le _, rfl, rfl, rfl, Lib.hid ⟨rfl, rfl, fun _ h => by cases h⟩, HB1⟩
  case round =>
    obtain ⟨j, L, rb, hj, rfl, rfl, rfl, HJ, HB⟩ := hrel
    rcases Nat.lt_or_ge j l.length with hlt | hge
    · as_aux_lemma =>
      obtain ⟨b1, o1, rfl, hr1⟩ := at_op (HS.out.below HB.out) j hlt
      have HI := Lib.hid (HIN.out _ (List.getElem_mem hlt))
      have HDJ := Lib.hid (HD.out _ (List.getElem_mem hlt))
      have HAT := Lib.hid (all_take_snoc j hlt)
      have HPT := Lib.hid (printT_snoc l j hlt)
      have HMT : Hid (∀ x ∈ l.take (j + 1), x ∈ l.take j ∨ x = l[j]) := Lib.hid (fun x hx => by
        rw [List.take_succ_eq_append_getElem hlt, List.mem_append, List.mem_singleton] at hx
        exact hx)
      have HSZ : Hid ((printT (opsOf (l.take j))).length ≤ 3001 * j) := Lib.hid (by
        have h := printT_len (opsOf (l.take j)) (fun o ho => by
          obtain ⟨x, hx, rfl⟩ := List.mem_map.1 ho
          exact HJ.out.2.2 x hx)
        rw [show (opsOf (l.take j)).length = j by simp [opsOf]; omega] at h
        exact h)
      obtain ⟨x, hx⟩ : ∃ x, x = l[j] := ⟨_, rfl⟩
      rw [← hx] at hr1 HI HDJ HAT HPT HMT
      clear hx
      obtain ⟨⟨k, n, d, c⟩, Ax, ca, Bx, cb⟩ := x
      have hr1 : wr.rangeAt b1 (o1 + j * 4) [.int .i64 k, .int .i64 n, .slice Ax d.length ca, .slice Bx c.length cb] := hr1
      have HI : Hid (Sn w 1 (.slice Ax d.length ca) d.length (Lib.byteCells d) ∧ Sn w 1 (.slice Bx c.length cb) c.length (intC c)) := HI
      have HDJ : Hid (d.length ≤ 9223372036854775807 ∧ c.length ≤ 9223372036854775807) := HDJ
      have HR1 := Lib.hid hr1
      have HFW := Lib.hid (few_any k n d c Ax Bx ca cb wr HDJ.out.2 HDJ.out.1)
      clear hr1
      have hj0 : (0 : Int) ≤ j := by omega
      have hj1 : (j : Int) < l.length := by omega
      rcases Bool.eq_false_or_eq_true (fewB d c) with hf | hf
      rotate_left 1
      · rw [hf] at HFW
        clear hf
        go_wp2_with (first
          | (go_at_call 13; refine HFW.out.mono ?_; rintro e w2 ⟨rfl, hb2⟩; have HB2 := Lib.hid (bstep HB.out hb2); clear hb2)
          | (refine ld 26 (.tmp 27) rfl rfl (by rfl) HR1.out Tryd.underlying26 rfl (by kernel_rfl) ?_))
        go_ret
        exact ⟨rfl, HB2.out⟩
      rw [hf] at HFW
      have hfl : d.length ≤ 500 ∧ c.length ≤ 50 := by unfold fewB at hf; simpa using hf
      clear hf
      have hll := line_len ⟨k, n, d, c⟩ hfl.1 hfl.2
      have HRR := Lib.hid (fun (w1 : World) (hb : Below w.heap.size w w1) => refRight_any k n d c Ax Bx ca cb w1 (HI.out.2.below hb) HDJ.out.2 HDJ.out.1)
      have HRL := Lib.hid (fun (w1 : World) (hb : Below w.heap.size w w1) => refLine_any k n d c Ax Bx ca cb w1 (HI.out.1.below hb) (HI.out.2.below hb) (by omega) (by omega))
      obtain ⟨rx, hrx⟩ : ∃ rx, rx = rightB ⟨k, n, d, c⟩ := ⟨_, rfl⟩
      obtain ⟨lx, hlx⟩ : ∃ lx, lx = lineB ⟨k, n, d, c⟩ := ⟨_, rfl⟩
      have HAT : Hid ((opsOf (l.take (j + 1))).all rightB = ((opsOf (l.take j)).all rightB && rightB ⟨k, n, d, c⟩)) := HAT
      have HPT : Hid (printT (opsOf (l.take (j + 1))) = printT (opsOf (l.take j)) ++ lineB ⟨k, n, d, c⟩ ++ [10]) := HPT
      have hLl : L.length ≤ 90030 := by have h1 := HSZ.out; rw [← HJ.out.1] at h1; omega
      rw [← hrx] at HRR HAT
      rw [← hlx] at HRL HPT hll
      have hz1 : (SB L).size = L.length := SB_size L
      have hz2 : (SB lx).size = lx.length := SB_size lx
      have HSUM : Hid (SB L ++ SB lx ++ (⟨#[10]⟩ : ByteArray) = SB (L ++ lx ++ [10])) := Lib.hid (by rw [SB_app]; exact SB_app _ [10])
      clear hrx hlx
      have HNEW : Hid (L ++ lx ++ [10] = printT (opsOf (l.take (j + 1))) ∧ (rb && rx) = (opsOf (l.take (j + 1))).all rightB ∧ ∀ x ∈ l.take (j + 1), x.o.data.length ≤ 500 ∧ x.o.cuts.length ≤ 50) := Lib.hid ⟨by rw [HPT.out, ← HJ.out.1], by rw [HAT.out, ← HJ.out.2.1], fun x hx => by
        rcases HMT.out x hx with h | rfl
        · exact HJ.out.2.2 x h
        · exact hfl⟩
      cases rb with
      | false =>
        go_wp2_with (first
          | (have hq := HB3.out; clear hq; fail)
          | (go_at_call 15; refine (HRL.out _ HB2.out).mono ?_; rintro e w3 ⟨rfl, hb3⟩; have HB3 := Lib.hid (bstep HB2.out hb3); clear hb3)
          | (go_at_call 13; refine HFW.out.mono ?_; rintro e w2 ⟨rfl, hb2⟩; have HB2 := Lib.hid (bstep HB.out hb2); have HR2 : Hid (w2.rangeAt b1 (o1 + j * 4) [.int .i64 k, .int .i64 n, .slice Ax d.length ca, .slice Bx c.length cb]) := Lib.hid (fun j' u hj' => Below.cell' hb2 (HR1.out j' u hj')); clear hb2)
          | (refine ld 26 (.tmp 42) rfl rfl (by rfl) HR2.out Tryd.underlying26 rfl (by kernel_rfl) ?_)
          | (refine ld 26 (.tmp 27) rfl rfl (by rfl) HR1.out Tryd.underlying26 rfl (by kernel_rfl) ?_))
        exact ⟨⟨j + 1, L ++ lx ++ [10], false, by omega, by rw [← HSUM.out], rfl, by go_num, HNEW, HB3⟩, by simp [intOf]; omega⟩
      | true =>
        go_wp2_with (first
          | (go_at_call 15; refine (HRL.out _ HB3.out).mono ?_; rintro e w4 ⟨rfl, hb4⟩; have HB4 := Lib.hid (bstep HB3.out hb4); clear hb4)
          | (go_at_call 14; refine (HRR.out _ HB2.out).mono ?_; rintro e w3 ⟨rfl, hb3⟩; have HB3 := Lib.hid (bstep HB2.out hb3); have HR3 : Hid (w3.rangeAt b1 (o1 + j * 4) [.int .i64 k, .int .i64 n, .slice Ax d.length ca, .slice Bx c.length cb]) := Lib.hid (fun j' u hj' => Below.cell' hb3 (HR2.out j' u hj')); clear hb3)
          | (go_at_call 13; refine HFW.out.mono ?_; rintro e w2 ⟨rfl, hb2⟩; have HB2 := Lib.hid (bstep HB.out hb2); have HR2 : Hid (w2.rangeAt b1 (o1 + j * 4) [.int .i64 k, .int .i64 n, .slice Ax d.length ca, .slice Bx c.length cb]) := Lib.hid (fun j' u hj' => Below.cell' hb2 (HR1.out j' u hj')); clear hb2)
          | (refine ld 26 (.tmp 42) rfl rfl (by rfl) HR3.out Tryd.underlying26 rfl (by kernel_rfl) ?_)
          | (refine ld 26 (.tmp 35) rfl rfl (by rfl) HR2.out Tryd.underlying26 rfl (by kernel_rfl) ?_)
          | (refine ld 26 (.tmp 27) rfl rfl (by rfl) HR1.out Tryd.underlying26 rfl (by kernel_rfl) ?_))
        exact ⟨⟨j + 1, L ++ lx ++ [10], rx, by omega, by rw [← HSUM.out], rfl, by go_num, HNEW, HB4⟩, by simp [intOf]; omega⟩
    · obtain rfl : j = l.length := by omega
      have HJ2 : Hid (L = printT (opsOf l) ∧ rb = (opsOf l).all rightB ∧ ∀ x ∈ l, x.o.data.length ≤ 500 ∧ x.o.cuts.length ≤ 50) := Lib.hid (by have h := HJ.out; rw [List.take_length] at h; exact h)
      clear HJ
      have hpl : (printT (opsOf l)).length ≤ 90030 := by
        have h := printT_len (opsOf l) (fun o ho => by
          obtain ⟨x, hx, rfl⟩ := List.mem_map.1 ho
          exact HJ2.out.2.2 x hx)
        rw [show (opsOf l).length = l.length by simp [opsOf]] at h
        omega
      have HPR := Lib.hid (print_any l A cap wr (HT.out.below HB.out) (HS.out.below HB.out) (fun x hx => (HIN.out x hx).below HB.out) (fun x hx => ⟨by have := (HJ2.out.2.2 x hx).1; omega, by have := (HJ2.out.2.2 x hx).2; omega⟩) (by omega) (fun k => by
        have h := printT_len (opsOf (l.take k)) (fun o ho => by
          obtain ⟨x, hx, rfl⟩ := List.mem_map.1 ho
          exact HJ2.out.2.2 x (List.mem_of_mem_take hx))
        have h2 : (opsOf (l.take k)).length ≤ l.length := by simp [opsOf]; omega
        omega) (fun x hx => by have := line_len x.o (HJ2.out.2.2 x hx).1 (HJ2.out.2.2 x hx).2; omega))
      have HLE : Hid (L = printT (opsOf l)) := Lib.hid HJ2.out.1
      have HRE : Hid (rb = (opsOf l).all rightB) := Lib.hid HJ2.out.2.1
      have HFE : Hid (∀ x ∈ l, x.o.data.length ≤ 500 ∧ x.o.cuts.length ≤ 50) := Lib.hid HJ2.out.2.2
      clear HJ2
      cases rb with
      | false =>
        as_aux_lemma =>
        rw [printR_false HRE.out.symm, show SB (([] : Bs), false).1 = (⟨#[]⟩ : ByteArray) from rfl] at HPR
        go_wp2_with (go_at_call 16; refine HPR.out.mono ?_; rintro e w2 ⟨rfl, hb2⟩; have HB2 := Lib.hid (bstep HB.out hb2); clear hb2)
        go_ret
        exact ⟨rfl, HB2.out⟩
      | true =>
        as_aux_lemma =>
        rw [printR_true HRE.out.symm, ← HLE.out] at HPR
        have hLl : L.length ≤ 90030 := by rw [HLE.out]; exact hpl
        have HP0 : Hid (∀ w1, Below w.heap.size w w1 → Calls Tryd.prog 17 #[.string (SB L)] w1 fun e w' => Below w1.heap.size w1 w' ∧ ∃ (R : List OpR) (A : Option Addr) (c : Nat), e = .returned (.tuple #[.slice A R.length c, .nilIface]) ∧ opsOf R = opsOf l ∧ Sn w' 4 (.slice A R.length c) R.length (R.flatMap opC) ∧ ∀ x ∈ R, OpI w' x) := Lib.hid (fun w1 hb => (Parse_any L w1 (HML.out.below hb) (by omega)).mono (by
          have hpp : parseT L = (0, opsOf l) := by
            rw [HLE.out]
            exact parse_print _ (fun o ho => List.all_eq_true.1 HRE.out.symm o ho)
          rintro e w' ⟨h1, v, ev, rfl, h⟩
          rw [hpp] at h
          rcases h with ⟨_, rfl, R, hR, hown, hops⟩ | ⟨h0, _⟩
          · obtain ⟨A, c, rfl, hsn, _⟩ := own_sn hown
            exact ⟨h1, R, A, c, rfl, hR, hsn, hops⟩
          · exact absurd h0 (by simp)))
        obtain ⟨S, hS⟩ : ∃ S, S = SB L := ⟨_, rfl⟩
        rw [← hS] at HPR HP0 ⊢
        have HSS : Hid ((S.toList == S.toList) = true) := Lib.hid (beq_self_eq_true _)
        have hsz : S.size = L.length := by rw [hS, SB_size]
        clear hS
        have hss := HSS.out
        have hss2 : (S.toList != S.toList) = false := by simp
        go_upto_region 16 with (first
          | (go_at_call 16; refine HPR.out.mono ?_; rintro e w2 ⟨rfl, hb2⟩; have HB2 := Lib.hid (bstep HB.out hb2); clear hb2)
          | (go_at_call 17; refine (HP0.out _ HB2.out).mono ?_; rintro e w3 ⟨hb3, R, A1, cA, rfl, hR, hsn, hops⟩; have HB3 := Lib.hid (bstep HB2.out hb3); have HRO := Lib.hid hR; have HSN := Lib.hid hsn; have HOP := Lib.hid hops; clear hb3 hR hsn hops))
        have hlen : R.length = l.length := opsOf_len HRO.out
        rw [hlen] at HSN ⊢
        have HL := Lib.hid hlen
        clear hlen
        have hnn : (((l.length : Nat) : Int) != ((l.length : Nat) : Int)) = false := by simp
        go_wp2_with fail
        clear hnn
        go_loopw [10] (fun i wr => ∃ j : Nat, j ≤ l.length ∧ i = .int .i64 (j : Int) ∧ Hid (Below w3.heap.size w3 wr)) (fun i _ => l.length - (intOf i).toNat)
        case atStart => exact ⟨0, Nat.zero_le _, rfl, Lib.hid (Below.refl _ _)⟩
        case round =>
          obtain ⟨j, hj, rfl, HBR⟩ := hrel
          rcases Nat.lt_or_ge j l.length with hlt | hge
          · have hlt' : j < R.length := by rw [HL.out]; exact hlt
            obtain ⟨b1, o1, rfl, hr1⟩ := op_at HL.out.symm (HSN.out.below HBR.out) j hlt'
            obtain ⟨b2, o2, rfl, hr2⟩ := op_at rfl ((HS.out.below HB3.out).below HBR.out) j hlt
            have hi1 := (HOP.out _ (List.getElem_mem hlt')).below HBR.out
            have hi2 := ((HIN.out _ (List.getElem_mem hlt)).below HB3.out).below HBR.out
            have hoo := opsOf_get HRO.out j hlt' hlt
            have hbd := HFE.out l[j] (List.getElem_mem hlt)
            obtain ⟨x, hx⟩ : ∃ x, x = R[j] := ⟨_, rfl⟩
            obtain ⟨y, hy⟩ : ∃ y, y = l[j] := ⟨_, rfl⟩
            rw [← hx] at hr1 hi1 hoo
            rw [← hy] at hr2 hi2 hoo hbd
            clear hx hy
            obtain ⟨⟨k, n, d, c⟩, Ax, ca, Bx, cb⟩ := x
            obtain ⟨o', Ay, ca2, By, cb2⟩ := y
            simp only at hoo
            subst hoo
            have HRA : Hid (wr.rangeAt b1 (o1 + j * 4) [.int .i64 k, .int .i64 n, .slice Ax d.length ca, .slice Bx c.length cb]) := Lib.hid hr1
            have HRB : Hid (wr.rangeAt b2 (o2 + j * 4) [.int .i64 k, .int .i64 n, .slice Ay d.length ca2, .slice By c.length cb2]) := Lib.hid hr2
            have HSA : Hid (∀ wz, Below wr.heap.size wr wz → Calls Tryd.prog 11 #[.agg #[.int .i64 k, .int .i64 n, .slice Ax d.length ca, .slice Bx c.length cb], .agg #[.int .i64 k, .int .i64 n, .slice Ay d.length ca2, .slice By c.length cb2]] wz fun e w' => e = .returned (.bool true) ∧ Below wz.heap.size wz w') := Lib.hid (fun wz hb => by
              have h := refSame_any k n k n d d c c Ax Ay Bx By ca ca2 cb cb2 wz (hi1.1.below hb) (hi2.1.below hb) (hi1.2.below hb) (hi2.2.below hb) (by have h2 : c.length ≤ 50 := hbd.2; omega) (by have h2 : d.length ≤ 500 := hbd.1; omega)
              rw [(sameB_iff _ _).2 rfl] at h
              exact h)
            clear hr1 hr2 hi1 hi2 hbd
            have hj0 : (0 : Int) ≤ j := by omega
            have hj1 : (j : Int) < l.length := by omega
            go_wp2_with fail
            refine held_start 10 (fun wz => Below wr.heap.size wr wz) (by kernel_rfl) (by kernel_rfl) ((Below.refl _ _).drew) (fun hHeld => ?_)
            refine hMove 0 (Operand.tmp 8) (some 89) (.slice (some ⟨b1, o1, none⟩) l.length cA) (by kernel_rfl) (by kernel_rfl) (by kernel_rfl) (by kernel_rfl) (by kernel_rfl) (fun _ _ _ h => h) (by exact rfl) hHeld ?_
            simp only [Act.put, List.setIfInBounds_toArray, List.set_cons_zero, List.set_cons_succ]
            refine hMove 1 (Operand.tmp 10) (some 90) (.int .i64 (j : Int)) (by kernel_rfl) (by kernel_rfl) (by kernel_rfl) (by kernel_rfl) (by kernel_rfl) (fun _ _ _ h => h) (by exact rfl) hHeld ?_
            simp only [Act.put, List.setIfInBounds_toArray, List.set_cons_zero, List.set_cons_succ]
            refine hTake 2 (Op.indexAddr 32 (Operand.tmp 89) (Operand.tmp 90)) (some 91) (.pointer (some ⟨b1, o1 + j * 4, none⟩)) (by kernel_rfl) (by kernel_rfl) (by kernel_rfl) (by kernel_rfl) (by kernel_rfl) (fun _ _ _ h => h) (fun o ho wX hX => by unfold execOp; simp only [ho]; go_simp) hHeld ?_
            simp only [Act.put, List.setIfInBounds_toArray, List.set_cons_zero, List.set_cons_succ]
            refine hLoad 3 26 (Operand.tmp 91) (some 92) (cs := [.int .i64 k, .int .i64 n, .slice Ax d.length ca, .slice Bx c.length cb]) (by kernel_rfl) (by kernel_rfl) (by kernel_rfl) (by kernel_rfl) (by kernel_rfl) (fun _ _ _ h => h) (by exact rfl) (fun _ hX => fun j' u hj => Below.cell' hX (HRA.out j' u hj)) Tryd.underlying26 rfl (by kernel_rfl) hHeld ?_
            simp only [Act.put, List.setIfInBounds_toArray, List.set_cons_zero, List.set_cons_succ]
            refine hMove 4 (Operand.tmp 0) (some 93) (.slice (some ⟨b2, o2, none⟩) l.length cap) (by kernel_rfl) (by kernel_rfl) (by kernel_rfl) (by kernel_rfl) (by kernel_rfl) (fun _ _ _ h => h) (by exact rfl) hHeld ?_
            simp only [Act.put, List.setIfInBounds_toArray, List.set_cons_zero, List.set_cons_succ]
            refine hMove 5 (Operand.tmp 10) (some 94) (.int .i64 (j : Int)) (by kernel_rfl) (by kernel_rfl) (by kernel_rfl) (by kernel_rfl) (by kernel_rfl) (fun _ _ _ h => h) (by exact rfl) hHeld ?_
            simp only [Act.put, List.setIfInBounds_toArray, List.set_cons_zero, List.set_cons_succ]
            refine hTake 6 (Op.indexAddr 32 (Operand.tmp 93) (Operand.tmp 94)) (some 95) (.pointer (some ⟨b2, o2 + j * 4, none⟩)) (by kernel_rfl) (by kernel_rfl) (by kernel_rfl) (by kernel_rfl) (by kernel_rfl) (fun _ _ _ h => h) (fun o ho wX hX => by unfold execOp; simp only [ho]; go_simp) hHeld ?_
            simp only [Act.put, List.setIfInBounds_toArray, List.set_cons_zero, List.set_cons_succ]
            refine hLoad 7 26 (Operand.tmp 95) (some 96) (cs := [.int .i64 k, .int .i64 n, .slice Ay d.length ca2, .slice By c.length cb2]) (by kernel_rfl) (by kernel_rfl) (by kernel_rfl) (by kernel_rfl) (by kernel_rfl) (fun _ _ _ h => h) (by exact rfl) (fun _ hX => fun j' u hj => Below.cell' hX (HRB.out j' u hj)) Tryd.underlying26 rfl (by kernel_rfl) hHeld ?_
            simp only [Act.put, List.setIfInBounds_toArray, List.set_cons_zero, List.set_cons_succ]
            refine wpAnyH_ready (rs := [8]) (by kernel_rfl) (by simp) ?_
            refine rCall 8 (Op.call { callee := Callee.value (Operand.func 11), args := #[Operand.tmp 92, Operand.tmp 96], argTypes := #[26, 26] }) (some 97) 11 (#[.agg ([.int .i64 k, .int .i64 n, .slice Ax d.length ca, .slice Bx c.length cb]).toArray, .agg ([.int .i64 k, .int .i64 n, .slice Ay d.length ca2, .slice By c.length cb2]).toArray]) (by kernel_rfl) (by kernel_rfl) (fun o ho => by unfold execOp; simp only [ho]; go_simp) ?_ AllReadyH.nil
            refine (HSA.out _ hHeld).mono ?_
            rintro e wM ⟨rfl, hbM⟩
            refine ⟨_, rfl, bstep hHeld hbM, fun hHeld => ?_⟩
            simp only [Act.put, List.setIfInBounds_toArray, List.set_cons_zero, List.set_cons_succ]
            refine hTake 9 (Op.unOp UnOp.not 4 (Operand.tmp 97)) (some 98) (.bool false) (by kernel_rfl) (by kernel_rfl) (by kernel_rfl) (by kernel_rfl) (by kernel_rfl) (fun _ _ _ h => h) (fun o ho wX hX => by unfold execOp; simp only [ho]; go_simp) hHeld ?_
            simp only [Act.put, List.setIfInBounds_toArray, List.set_cons_zero, List.set_cons_succ]
            refine wpAnyH_done (by kernel_rfl) ?_ _
            have HBE := Lib.hid (bstep HBR.out hHeld)
            clear hHeld
            go_wp2_with fail
            exact ⟨⟨j + 1, by omega, by go_num, HBE⟩, by simp [intOf]; omega⟩
          · go_wp2_with fail
            go_ret
            exact ⟨rfl, bstep HB3.out HBR.out⟩
end Go.Proofs.YtmaifldiondchaaDoor
