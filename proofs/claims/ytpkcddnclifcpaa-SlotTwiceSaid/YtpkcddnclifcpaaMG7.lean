/- Parts: tolllaw18.scans: both disks are scanned alike. -/
import Derived.Test.YtpkcddnclifcpaaMG6
import Derived.Test.YtpkcddnclifcpaaMF21
import Derived.Test.YtpkcddnclifcpaaMF23
namespace Go.Proofs.Ytpkcddnclifcpaa
open Go.RowKit
attribute [local irreducible] wpQuiet wpAnyH
set_option linter.unusedSimpArgs false

theorem eq_nil : ∀ w, (binOp .neq 37 .nilIface .nilIface).run Try.prog w = .ok (.bool false) w := fun w => by kernel_rfl

set_option maxRecDepth 100000 in
set_option maxHeartbeats 4000000 in
theorem scans_any (m : DiskM) (d : DiskD) (mr : RM) (r : RefD) (w : World) (hk : DK w m d) (hr : RK w mr r) (hrel : Rel d r) (hs : d.sec.length = 10) :
    Calls Try.prog 26 #[.pointer (some ⟨m.g, 0, none⟩), .agg (refC mr r)] w fun e w' => e = .returned (.bool true) ∧ Below w.heap.size w w' := by
  obtain ⟨w1, hw1⟩ : ∃ w1, w1 = w.alloc (.cells (refC mr r) 48) := ⟨_, rfl⟩
  have HA1 : Hid (Blk w1 w.heap.size 48 (refC mr r)) := Lib.hid (by rw [hw1]; exact Blk.new _ _ _)
  have HW1 : Hid (Below w.heap.size w w1) := Lib.hid (by rw [hw1]; exact bel1 _ _)
  have HK := Lib.hid hk
  have HR := Lib.hid hr
  have HL := Lib.hid hrel
  have HS := Lib.hid hs
  have hlen : (Try.prog.info? 48).map (·.size) = some (refC mr r).toList.length := refI
  obtain ⟨g, hg⟩ : ∃ g, g = m.g := ⟨_, rfl⟩
  obtain ⟨dn, hdn⟩ : ∃ dn, dn = r.down := ⟨_, rfl⟩
  have HDN := Lib.hid hdn
  have HSC := Lib.hid (fun W (hb : Below w.heap.size w W) (f : Int) (hf : 0 ≤ f ∧ f ≤ 100000) => slot_scan f 5 W m d (HK.out.keep hb) hf (by omega))
  have HRS := Lib.hid (fun W (hb : Below w.heap.size w W) (f : Int) (hf : 0 ≤ f ∧ f ≤ 100000) => ref18_scan mr r f 5 W (HR.out.keep hb) hf (by omega) (by omega))
  have HSTP := Lib.hid (fun W (hb : Below w.heap.size w W) => disk_steps W m d (HK.out.keep hb))
  rw [← hg] at HSC HSTP ⊢
  clear hk hr hrel hs hdn
  go_enter Try.func26, Try.ntmps26
  go_upto_region 1 with fail
  rw [← hw1]
  clear hw1 hg
  go_wp2_with fail
  go_loopw [5] (fun i wr => ∃ k : Nat, k ≤ 2 ∧ i = .int .i64 (k : Int) ∧ Hid (Blk wr w.heap.size 48 (refC mr r)) ∧ Hid (Below w.heap.size w wr)) (fun i _ => 2 - (intOf i).toNat)
  case atStart => exact ⟨0, by omega, rfl, HA1, HW1⟩
  case round =>
    obtain ⟨k, hk, rfl, HAr, HBr⟩ := hrel
    have hszr := HBr.out.size
    have hltr := HAr.out.lt
    rcases Nat.lt_or_ge k 2 with hlt | hge
    · obtain ⟨f, hf⟩ : ∃ f : Int, f = 5 * (k : Int) := ⟨_, rfl⟩
      have hf2 : 0 ≤ f ∧ f ≤ 5 := by omega
      have HF : Hid (IntKind.i64.wrap (5 * (k : Int)) = f) := Lib.hid (by rw [hf]; exact IntWalk.i64_in _ (by omega))
      have hff := HF.out
      have hk0 : (0 : Int) ≤ k := by omega
      have hk1 : (k : Int) < 2 := by omega
      have HP := Lib.hid (HSC.out wr HBr.out f ⟨by omega, by omega⟩)
      cases dn with
      | true =>
        have HV : Hid (scanR (none, []) (secsL d f 5) = ((none, []), some (12, none))) := Lib.hid (scan_down (HL.out.down.trans HDN.out.symm) 4 f)
        rw [HV.out] at HP
        obtain ⟨ve, hve⟩ : ∃ ve, ve = valE (some (12, none)) := ⟨_, rfl⟩
        have HCO := Lib.hid (fun W => code18 (some (12, none)) W ⟨by decide, by decide⟩)
        rw [← hve] at HP HCO
        have hcv : codeA (some (12, none)) = 12 := rfl
        rw [hcv] at HCO
        clear hve hcv hf
        go_upto_region 5 with (first
          | (go_at_call 21; refine HP.out.mono ?_; rintro e w2 ⟨hb2, v2, rfl, ho2, _⟩; obtain ⟨A2, c2, rfl, _⟩ := Sn.own ho2)
          | (refine al 56 stZ rfl rfl zeroS ?_)
          | (refine stNew (cells := stC (none, []) (.slice A2 0 c2)) 56 (.tmp 6) (.tmp 19) rfl rfl (by rfl) (by rfl) (by kernel_rfl) (by rfl) (stC_one _ _ _ _) ?_; intro w3 hB3 hb3 hs3))
        have hA3 := (HAr.out.keep hb2).keep hb3
        have HA3 := Lib.hid hA3
        have HB3 := Lib.hid (bstep (bstep HBr.out hb2) hb3)
        have hB3' : Blk w3 w2.heap.size 56 (stC (none, []) (.slice A2 0 c2)) := hB3
        have hd := hA3.cell 2
        simp only [refC, List.getElem?_toArray, List.getElem?_cons_zero, List.getElem?_cons_succ, ← HDN.out] at hd
        have HB3' := Lib.hid hB3'
        clear hA3 hB3 hb3 hs3 hb2 ho2 hB3' HP
        go_upto_region 6 with fail
        have HCW := Lib.hid (HCO.out w3)
        go_wp2_with fail
        refine HCW.out.mono ?_
        rintro e w4 ⟨rfl, hb4⟩
        have hB4 := HB3'.out.keep hb4
        have e0 := hB4.cell 0
        have e1 := hB4.cell 1
        have e2 := hB4.cell 2
        simp only [stC, List.getElem?_toArray, List.getElem?_cons_zero, List.getElem?_cons_succ, Option.isSome_none, Option.getD_none] at e0 e1 e2
        have HA4 := Lib.hid (HA3.out.keep hb4)
        have HB4 := Lib.hid (bstep HB3.out hb4)
        clear hB4 hb4 hd
        go_wp2_with fail
        exact ⟨⟨k + 1, by omega, by go_num, HA4, HB4⟩, by simp [intOf]; omega⟩
      | false =>
        have hin : f.toNat + 5 ≤ r.sec.length := by rw [← HL.out.sec, HS.out]; omega
        have HV : Hid (scanR (none, []) (secsL d f 5) = (scanL (none, []) (rsecs r f 5), none)) := Lib.hid (HL.out.scan HDN.out.symm 5 f hf2.1 hin)
        rw [HV.out] at HP
        have HQ := Lib.hid (fun W (hb : Below w.heap.size w W) => HRS.out W hb f ⟨by omega, by omega⟩)
        have hel : (scanL (none, []) (rsecs r f 5)).2.length ≤ 5 := by
          have h1 : ∀ (L : List (List Int)) (st : SSt), (scanL st L).2.length ≤ st.2.length + L.length := fun L => by
            induction L with
            | nil => intro st; simp [scanL]
            | cons s L ih =>
              intro st
              rw [scanL]
              cases hq : stepS st s with
              | none => simp only; omega
              | some st' =>
                have := ih st'
                have h2 := (stepS_len hq).1
                simp only [List.length_cons]
                omega
          have := h1 (rsecs r f 5) (none, [])
          rw [rsecs_length] at this
          simpa using this
        obtain ⟨⟨so, se⟩, hS⟩ : ∃ S, S = scanL (none, []) (rsecs r f 5) := ⟨_, rfl⟩
        rw [← hS] at HP HQ hel
        simp only [valE] at HP
        simp only at hel
        clear hS hf hin HV
        go_upto_region 5 with (first
          | (go_at_call 21; refine HP.out.mono ?_; rintro e w2 ⟨hb2, v2, rfl, ho2, hok2⟩; obtain ⟨A2, c2, rfl, _⟩ := Sn.own ho2)
          | (refine al 56 stZ rfl rfl zeroS ?_)
          | (refine stNew (cells := stC (so, se) (.slice A2 se.length c2)) 56 (.tmp 6) (.tmp 19) rfl rfl (by rfl) (by rfl) (by kernel_rfl) (by rfl) (stC_one _ _ _ _) ?_; intro w3 hB3 hb3 hs3))
        have hA3 := (HAr.out.keep hb2).keep hb3
        have HA3 := Lib.hid hA3
        have HB3 := Lib.hid (bstep (bstep HBr.out hb2) hb3)
        have HB3' : Hid (Blk w3 w2.heap.size 56 (stC (so, se) (.slice A2 se.length c2))) := Lib.hid hB3
        have hd := hA3.cell 2
        simp only [refC, List.getElem?_toArray, List.getElem?_cons_zero, List.getElem?_cons_succ, ← HDN.out] at hd
        have HSN := Lib.hid ((Sn.own ho2).below hb3)
        have HOK := Lib.hid hok2
        have HR3 := Lib.hid hA3.range
        have HQ3 := Lib.hid (HQ.out w3 HB3.out)
        have hlt3 := HB3'.out.lt
        clear hA3 hB3 hb3 hs3 hb2 ho2 hok2 HP HQ
        go_upto_region 9 with (first
          | (refine ld 48 _ rfl rfl rfl HR3.out Try.underlying48 rfl hlen ?_)
          | (go_at_call 49; refine HQ3.out.mono ?_; rintro e w4 ⟨hb4, v4, rfl, ho4, hok4⟩; obtain ⟨A4, c4, rfl, _⟩ := Sn.own ho4)
          | (refine al 107 stZ rfl rfl zeroS18 ?_)
          | (refine stNew (cells := stC (so, se) (.slice A4 se.length c4)) 107 (.tmp 8) (.tmp 44) rfl rfl (by rfl) (by rfl) (by kernel_rfl) (by rfl) (stC_one _ _ _ _) ?_; intro w5 hB5 hb5 hs5))
        have HA5 := Lib.hid ((HA3.out.keep hb4).keep hb5)
        have HW5 := Lib.hid (bstep (bstep HB3.out hb4) hb5)
        have hB5' : Blk w5 w4.heap.size 107 (stC (so, se) (.slice A4 se.length c4)) := hB5
        have hB6 := (HB3'.out.keep hb4).keep hb5
        have e0 := hB6.cell 0
        have e1 := hB6.cell 1
        have e2 := hB6.cell 2
        have f0 := hB5'.cell 0
        have f1 := hB5'.cell 1
        have f2 := hB5'.cell 2
        simp only [stC, List.getElem?_toArray, List.getElem?_cons_zero, List.getElem?_cons_succ] at e0 e1 e2 f0 f1 f2
        obtain ⟨bs, hbs⟩ : ∃ bs, bs = so.isSome := ⟨_, rfl⟩
        obtain ⟨gs, hgs⟩ : ∃ gs, gs = so.getD 0 := ⟨_, rfl⟩
        rw [← hbs] at e0 f0
        rw [← hgs] at e1 f1
        have HSA := Lib.hid (same_any (.slice A2 se.length c2) (.slice A4 se.length c4) se se w5 ((HSN.out.below hb4).below hb5) HOK.out ((Sn.own ho4).below hb5) hok4 (by omega) (by omega))
        rw [decide_eq_true rfl] at HSA
        have hnn := eq_nil
        clear hbs hgs hB5 hb5 hs5 hB5' hB6 hb4 ho4 hok4 HSN HOK HQ3 HR3 HB3' HA3 HB3 hd
        have t9 : ((gs : Int) != (gs : Int)) = false := by simp
        cases bs with
        | true =>
          go_wp2_with fail
          refine HSA.out.mono ?_
          rintro e w6 ⟨rfl, hb6⟩
          have HA6 := Lib.hid (HA5.out.keep hb6)
          have HW6 := Lib.hid (bstep HW5.out hb6)
          clear hb6
          go_wp2_with fail
          exact ⟨⟨k + 1, by omega, by go_num, HA6, HW6⟩, by simp [intOf]; omega⟩
        | false =>
          go_wp2_with fail
          refine HSA.out.mono ?_
          rintro e w6 ⟨rfl, hb6⟩
          have HA6 := Lib.hid (HA5.out.keep hb6)
          have HW6 := Lib.hid (bstep HW5.out hb6)
          clear hb6
          go_wp2_with fail
          exact ⟨⟨k + 1, by omega, by go_num, HA6, HW6⟩, by simp [intOf]; omega⟩
    · obtain rfl : k = 2 := by omega
      have hi1 : ((2 : Nat) : Int) = 2 := rfl
      have HST : Hid ((d.steps : Int) = r.steps) := Lib.hid HL.out.st
      go_upto_region 11 with fail
      obtain ⟨wS, hwS⟩ : ∃ wS, wS = wr.drew := ⟨_, rfl⟩
      have HBS : Hid (Below w.heap.size w wS) := Lib.hid (by rw [hwS]; exact HBr.out.drew)
      have HAS : Hid (Blk wS w.heap.size 48 (refC mr r)) := Lib.hid (by rw [hwS]; exact HAr.out)
      have HCX : Hid (∀ W, Blk W w.heap.size 48 (refC mr r) → W.cell? ⟨w.heap.size, 3, none⟩ = some (.int .i64 r.steps)) := Lib.hid (fun W h => by have := h.cell 3; simpa [refC] using this)
      have HPS := Lib.hid (HSTP.out wS HBS.out)
      rw [HST.out] at HPS
      clear HAr HBr
      refine held_start 6 (fun W => Blk W w.heap.size 48 (refC mr r)) (by kernel_rfl) (by kernel_rfl) (by rw [← hwS]; exact HAS.out) (fun hHeld => ?_)
      rw [← hwS] at hHeld ⊢
      clear hwS
      refine hMove 0 (Operand.tmp 0) (some 69) (.pointer (some ⟨g, 0, none⟩)) (by kernel_rfl) (by kernel_rfl) (by kernel_rfl) (by kernel_rfl) (by kernel_rfl) (fun _ _ _ h => h) (by exact rfl) hHeld ?_
      simp only [Act.put, List.setIfInBounds_toArray, List.set_cons_zero, List.set_cons_succ]
      refine hTake 2 (Op.fieldAddr 48 (Operand.tmp 3) 3) (some 71) (.pointer (some ⟨w.heap.size, 3, none⟩)) (by kernel_rfl) (by kernel_rfl) (by kernel_rfl) (by kernel_rfl) (by kernel_rfl) (fun _ _ _ h => h) (fun o ho wX hX => by unfold execOp; simp only [ho]; go_simp) hHeld ?_
      simp only [Act.put, List.setIfInBounds_toArray, List.set_cons_zero, List.set_cons_succ]
      refine hTake 3 (Op.load 3 (Operand.tmp 71)) (some 72) (.int .i64 r.steps) (by kernel_rfl) (by kernel_rfl) (by kernel_rfl) (by kernel_rfl) (by kernel_rfl) (fun _ _ _ h => h) (fun o ho wX hX => by have hq := HCX.out wX hX; unfold execOp; simp only [ho]; go_simp) hHeld ?_
      simp only [Act.put, List.setIfInBounds_toArray, List.set_cons_zero, List.set_cons_succ]
      refine wpAnyH_ready (rs := [1]) (by kernel_rfl) (by simp) ?_
      refine rCall 1 (Op.call { callee := Callee.value (Operand.func 14), args := #[Operand.tmp 69], argTypes := #[34] }) (some 70) 14 (#[.pointer (some ⟨g, 0, none⟩)]) (by kernel_rfl) (by kernel_rfl) (fun o ho => by unfold execOp; simp only [ho]; go_simp) ?_ AllReadyH.nil
      refine HPS.out.mono ?_
      rintro e w9 ⟨rfl, rfl⟩
      refine ⟨_, rfl, HAS.out, fun hHeld => ?_⟩
      simp only [Act.put, List.setIfInBounds_toArray, List.set_cons_zero, List.set_cons_succ]
      refine hTake 4 (Op.binOp BinOp.eql 3 (Operand.tmp 70) (Operand.tmp 72) 3) (some 73) (.bool true) (by kernel_rfl) (by kernel_rfl) (by kernel_rfl) (by kernel_rfl) (by kernel_rfl) (fun _ _ _ h => h) (fun o ho wX hX => by unfold execOp; simp only [ho]; go_simp) hHeld ?_
      simp only [Act.put, List.setIfInBounds_toArray, List.set_cons_zero, List.set_cons_succ]
      refine hTake 5 (Op.assign (Operand.tmp 73)) (some 4) (.bool true) (by kernel_rfl) (by kernel_rfl) (by kernel_rfl) (by kernel_rfl) (by kernel_rfl) (fun _ _ _ h => h) (fun o ho wX hX => by unfold execOp; simp only [ho]; go_simp) hHeld ?_
      simp only [Act.put, List.setIfInBounds_toArray, List.set_cons_zero, List.set_cons_succ]
      refine wpAnyH_done (by kernel_rfl) ?_ _
      go_wp2_with fail
      go_ret
      exact ⟨rfl, HBS.out⟩
end Go.Proofs.Ytpkcddnclifcpaa
