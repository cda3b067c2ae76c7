/- Parts: tollref16.Read. -/
import Derived.Test.YtpkcddnclifcpaaMG1
namespace Go.Proofs.Ytpkcddnclifcpaa
open Go.RowKit
attribute [local irreducible] wpQuiet wpAnyH
set_option linter.unusedSimpArgs false

def rdRA (r : RefD) (a : Int) : Int := if r.down then 12 else if rhas r a then 0 else 15
def rdK (r : RefD) (a : Int) (k : Nat) : List Int := ((((r.opn.take k).filter (fun p => p.1 == a)).getLast?).map (·.2)).getD (r.sec.getD a.toNat [])
theorem rdK_yes {r : RefD} {a : Int} {k : Nat} (hk : k < r.opn.length) (he : r.opn[k].1 = a) : rdK r a (k + 1) = r.opn[k].2 := by
  unfold rdK
  rw [List.take_succ_eq_append_getElem hk, List.filter_append]
  simp [he]
theorem rdK_no {r : RefD} {a : Int} {k : Nat} (hk : k < r.opn.length) (he : r.opn[k].1 ≠ a) : rdK r a (k + 1) = rdK r a k := by
  unfold rdK
  rw [List.take_succ_eq_append_getElem hk, List.filter_append]
  simp [he]
theorem rdK_sec {r : RefD} (h : ROk r) {a : Int} (h0 : 0 ≤ a) (h1 : a < r.sec.length) : ∀ k, k ≤ r.opn.length → Sec (rdK r a k)
  | 0, _ => by
    have hlt : a.toNat < r.sec.length := by omega
    have : rdK r a 0 = r.sec[a.toNat] := by unfold rdK; simp [hlt]
    rw [this]
    exact h.sec _ (List.getElem_mem hlt)
  | k + 1, hk => by
    by_cases he : r.opn[k].1 = a
    · rw [rdK_yes (by omega) he]; exact (h.opn _ (List.getElem_mem (by omega))).2.2
    · rw [rdK_no (by omega) he]; exact rdK_sec h h0 h1 k (by omega)
theorem rdR_sec {r : RefD} (h : ROk r) (a : Int) : Sec (rdR r a) := by
  unfold rdR
  cases hd : r.down with
  | true => exact zsec_sec
  | false =>
    cases hh : rhas r a with
    | false => exact zsec_sec
    | true =>
      have h2 : 0 ≤ a ∧ a < r.sec.length := by unfold rhas at hh; simpa using hh
      have := rdK_sec h h2.1 h2.2 r.opn.length (Nat.le_refl _)
      unfold rdK at this
      rw [List.take_length] at this
      exact this

set_option maxRecDepth 100000 in
set_option maxHeartbeats 4000000 in
theorem ref_read (m : RM) (r : RefD) (a : Int) (w : World) (h : RK w m r) (ha : isI64 a) :
    Calls Try.prog 75 #[.agg (refC m r), .int .i64 a] w fun e w' => e = .returned (.tuple #[.agg (u8s (rdR r a)).toArray, .int .i64 (rdRA r a)]) ∧ Below w.heap.size w w' := by
  obtain ⟨As, cs, es⟩ := h.sec.slc
  obtain ⟨Ao, co, eo⟩ := h.opn.slc
  have HK := Lib.hid h
  have hcells : refC m r = #[.slice As r.sec.length cs, .slice Ao r.opn.length co, .bool r.down, .int .i64 r.steps, m.pv] := by unfold refC; rw [es, eo]
  have HSC : Hid (Sn w 64 (.slice As r.sec.length cs) r.sec.length (r.sec.flatMap u8s)) := Lib.hid (by rw [← es]; exact h.sec)
  have HOP : Hid (Sn w 65 (.slice Ao r.opn.length co) r.opn.length (r.opn.flatMap wrC)) := Lib.hid (by rw [← eo]; exact h.opn)
  obtain ⟨w1, hw1⟩ : ∃ w1, w1 = (w.alloc (.cells (refC m r) 48)).alloc (.cells z64 80) := ⟨_, rfl⟩
  have hA1 : Blk w1 w.heap.size 48 #[.slice As r.sec.length cs, .slice Ao r.opn.length co, .bool r.down, .int .i64 r.steps, m.pv] := by rw [hw1, ← hcells]; exact (Blk.new _ _ _).alloc _
  have hB1 : Blk w1 (w.heap.size + 1) 80 z64 := by rw [hw1]; exact Blk.newAt _ _ _ _ (by simp)
  have hb1 : Below w.heap.size w w1 := by rw [hw1]; exact bstep (bel1 _ _) (bel1 _ _)
  have hsz1 : w1.heap.size = w.heap.size + 2 := by rw [hw1]; simp
  have hc0 := hA1.cell 0
  have hc2 := hA1.cell 2
  simp only [List.getElem?_toArray, List.getElem?_cons_zero, List.getElem?_cons_succ] at hc0 hc2
  have hzl : z64.size = 64 := z64_size
  have HZ := Lib.hid z64_zsec
  have HZ1 : Hid (z64.all (·.oneCell') = true) := Lib.hid (by rw [z64_zsec]; exact u8s_one _)
  have HU : Hid (∀ s, Sec s → (Try.prog.info? 80).map (·.size) = some (u8s s).length) := Lib.hid (fun s hs => by rw [sec_length hs]; kernel_rfl)
  have HZS : Hid (Sec zsec) := Lib.hid zsec_sec
  have a1 : -9223372036854775808 ≤ a := ha.1
  have a2 : a ≤ 9223372036854775807 := ha.2
  have HA1 := Lib.hid hA1
  have HB1 := Lib.hid hB1
  have HW1 := Lib.hid hb1
  have hlen4 : (r.sec.length : Int) ≤ 4096 := by have := h.ok.few; omega
  have hlo : (r.opn.length : Int) ≤ 50000 := by have := h.ok.lo; omega
  clear hA1 hB1 hb1 h ha es eo hcells
  cases hd : r.down with
  | true =>
    rw [hd] at hc2
    have HF : Hid (rdR r a = zsec ∧ rdRA r a = 12) := Lib.hid (by unfold rdR rdRA; rw [hd]; exact ⟨rfl, rfl⟩)
    clear hd
    go_enter Try.func75, Try.ntmps75
    go_upto_region 1 with (refine al 80 z64 rfl rfl zero64 ?_)
    rw [← hw1]
    clear hw1
    go_wp2_with (first
      | (refine bld 80 #[] rfl rfl rfl built64 ?_)
      | (refine stBlk 80 (.tmp 4) (.tmp 10) rfl rfl rfl rfl HB1.out (by rw [hzl]; kernel_rfl) rfl HZ1.out ?_; intro w3 hB3 hb3 _ _; have HB3 := Lib.hid hB3; have HE3 := Lib.hid hb3; clear hB3 hb3))
    have hr : w3.rangeAt (w.heap.size + 1) 0 (u8s zsec) := by have h := HB3.out.range; rw [HZ.out, List.toList_toArray] at h; exact h
    exact bodyPost_ret (results_cellR_tmp rfl _ rfl hr Try.underlying80 rfl (HU.out _ HZS.out)) rfl ⟨by rw [HF.out.1, HF.out.2]; rfl, HW1.out.trans (HE3.out.mono (by omega))⟩
  | false =>
    rw [hd] at hc2
    cases hh : rhas r a with
    | false =>
      have HF : Hid (rdR r a = zsec ∧ rdRA r a = 15) := Lib.hid (by unfold rdR rdRA; rw [hd, hh]; exact ⟨rfl, rfl⟩)
      have hout : a < 0 ∨ (0 ≤ a ∧ (r.sec.length : Int) ≤ a) := by
        unfold rhas at hh
        rcases Int.lt_or_le a 0 with h | h
        · exact .inl h
        · simp [h] at hh; exact .inr ⟨h, hh⟩
      clear hd hh
      rcases hout with t1 | ⟨t1, t2⟩
      all_goals
        go_enter Try.func75, Try.ntmps75
        go_upto_region 1 with (refine al 80 z64 rfl rfl zero64 ?_)
        rw [← hw1]
        clear hw1
        go_wp2_with (first
          | (refine bld 80 #[] rfl rfl rfl built64 ?_)
          | (refine stBlk 80 (.tmp 4) (.tmp 20) rfl rfl rfl rfl HB1.out (by rw [hzl]; kernel_rfl) rfl HZ1.out ?_; intro w3 hB3 hb3 _ _; have HB3 := Lib.hid hB3; have HE3 := Lib.hid hb3; clear hB3 hb3))
        have hr : w3.rangeAt (w.heap.size + 1) 0 (u8s zsec) := by have h := HB3.out.range; rw [HZ.out, List.toList_toArray] at h; exact h
        exact bodyPost_ret (results_cellR_tmp rfl _ rfl hr Try.underlying80 rfl (HU.out _ HZS.out)) rfl ⟨by rw [HF.out.1, HF.out.2]; rfl, HW1.out.trans (HE3.out.mono (by omega))⟩
    | true =>
      have hh2 : 0 ≤ a ∧ a < r.sec.length := by unfold rhas at hh; simpa using hh
      have HF : Hid (rdR r a = rdK r a r.opn.length ∧ rdRA r a = 0) := Lib.hid (by unfold rdR rdRA rdK; rw [hd, hh, List.take_length]; exact ⟨rfl, rfl⟩)
      have HRS : Hid (∀ k, k ≤ r.opn.length → Sec (rdK r a k)) := Lib.hid (rdK_sec HK.out.ok hh2.1 hh2.2)
      have HST : Hid (∀ s, Sec s → (64 = (u8s s).toArray.size) ∧ ((u8s s).toArray.all (·.oneCell') = true) ∧ (Try.prog.info? 80).map (·.size) = some (u8s s).toArray.size) := Lib.hid (fun s hs => ⟨by simp [sec_length hs], u8s_one s, by simp only [List.size_toArray, sec_length hs]; kernel_rfl⟩)
      clear hd hh
      obtain ⟨k, rfl⟩ := Int.eq_ofNat_of_zero_le hh2.1
      have hk : k < r.sec.length := by omega
      obtain ⟨b, off, rfl, hr⟩ := at_sec HSC.out HK.out.ok.sec k hk
      have HRG : Hid (w1.rangeAt b (off + k * 64) (u8s (rdK r k 0))) := Lib.hid (by
        have e : rdK r k 0 = r.sec[k] := by unfold rdK; simp [hk]
        rw [e]
        exact fun j u hj => Below.cell' HW1.out (hr j u hj))
      have t1 : (0 : Int) ≤ k := hh2.1
      have t2 : (k : Int) < r.sec.length := hh2.2
      have HS0 := Lib.hid (HRS.out 0 (Nat.zero_le _))
      have HS3 := Lib.hid (HST.out _ HS0.out)
      have HW2 : Hid (Below w.heap.size w (w1.alloc (.cells z64 80))) := Lib.hid (bstep HW1.out (bel1 _ _))
      obtain ⟨D0, hD0⟩ : ∃ D0, D0 = u8s (rdK r k 0) := ⟨_, rfl⟩
      rw [← hD0] at HRG HS3
      have HD0 := Lib.hid hD0
      clear hr hh2 hD0
      go_enter Try.func75, Try.ntmps75
      go_upto_region 1 with (refine al 80 z64 rfl rfl zero64 ?_)
      rw [← hw1]
      clear hw1
      go_upto_region 6 with (first
        | (refine ld 80 _ rfl rfl rfl HRG.out Try.underlying80 rfl (by simpa using HS3.out.2.2) ?_)
        | (refine al 80 z64 rfl rfl zero64 ?_)
        | (refine stNew 80 (.tmp 6) (.tmp 25) rfl rfl rfl rfl HS3.out.2.2 (by rw [hzl]; exact HS3.out.1) HS3.out.2.1 ?_; intro w3 hB3 hb3 hs3))
      rw [hsz1] at hB3 hb3 hs3 ⊢
      have HB3 : Hid (Blk w3 (w.heap.size + 2) 80 (u8s (rdK r k 0)).toArray) := Lib.hid (by rw [← HD0.out]; exact hB3)
      have hb13 : Below (w.heap.size + 2) w1 w3 := hb3
      have HA3 : Hid (Blk w3 w.heap.size 48 #[.slice (some ⟨b, off, none⟩) r.sec.length cs, .slice Ao r.opn.length co, .bool r.down, .int .i64 r.steps, m.pv]) := Lib.hid (HA1.out.below hb13 (by omega))
      have HZ3 : Hid (Blk w3 (w.heap.size + 1) 80 z64) := Lib.hid (HB1.out.below hb13 (by omega))
      have HW3 : Hid (Below w.heap.size w w3) := Lib.hid (HW1.out.trans (hb13.mono (by omega)))
      clear hB3 hb3 hs3 hb13 hc0 hc2 HS3 HRG HW1 HW2 HA1 HB1
      go_wp2_with fail
      go_loopw [7] (fun i wr => ∃ j : Nat, j ≤ r.opn.length ∧ i = .int .i64 (j : Int) ∧ Hid (Blk wr (w.heap.size + 2) 80 (u8s (rdK r k j)).toArray) ∧ Hid (Blk wr w.heap.size 48 #[.slice (some ⟨b, off, none⟩) r.sec.length cs, .slice Ao r.opn.length co, .bool r.down, .int .i64 r.steps, m.pv]) ∧ Hid (Blk wr (w.heap.size + 1) 80 z64) ∧ Hid (Below w.heap.size w wr)) (fun i _ => r.opn.length - (intOf i).toNat)
      case atStart => exact ⟨0, Nat.zero_le _, rfl, HB3, HA3, HZ3, HW3⟩
      case round =>
        obtain ⟨j, hj, rfl, HBr, HAr, HZr, HWr⟩ := hrel
        have hc1 := HAr.out.cell 1
        simp only [List.getElem?_toArray, List.getElem?_cons_zero, List.getElem?_cons_succ] at hc1
        rcases Nat.lt_or_ge j r.opn.length with hlt | hge
        · obtain ⟨b1, o1, rfl, hr1⟩ := at_wr (HOP.out.below HWr.out) (fun p hp => (HK.out.ok.opn p hp).2.2) j hlt
          have HN := Lib.hid (fun (he : r.opn[j].1 = k) => rdK_yes (r := r) (a := k) hlt he)
          have HM := Lib.hid (fun (he : r.opn[j].1 ≠ k) => rdK_no (r := r) (a := k) hlt he)
          have hp := HK.out.ok.opn _ (List.getElem_mem hlt)
          obtain ⟨⟨q, dat⟩, hpe⟩ : ∃ p, p = r.opn[j] := ⟨_, rfl⟩
          rw [← hpe] at hr1 hp HN HM
          clear hpe
          have e0 : wr.cell? ⟨b1, o1 + j * 65, none⟩ = some (.int .i64 q) := hr1 0 _ rfl
          have HRD : Hid (wr.rangeAt b1 (o1 + j * 65 + 1) (u8s dat)) := Lib.hid (fun i u hi => by
            have := hr1 (i + 1) u hi
            rw [show o1 + j * 65 + 1 + i = o1 + j * 65 + (i + 1) by omega]
            exact this)
          have HSD := Lib.hid (HST.out _ hp.2.2)
          have hj0 : (0 : Int) ≤ j := by omega
          have hj1 : (j : Int) < r.opn.length := by omega
          have HL64 : Hid ((u8s (rdK r k j)).toArray.size = 64) := Lib.hid ((HST.out _ (HRS.out j hj)).1.symm)
          clear hr1 hp
          rcases Bool.eq_false_or_eq_true (q == (k : Int)) with t3 | t3
          · have hq : q = k := by simpa using t3
            have HN2 := Lib.hid (HN.out hq)
            clear HN HM hq
            go_wp2_with (first
              | (refine ld 80 _ rfl rfl rfl HRD.out Try.underlying80 rfl (by simpa using HSD.out.2.2) ?_)
              | (refine stBlk 80 (.tmp 6) (.tmp 46) rfl rfl rfl rfl HBr.out HSD.out.2.2 (HL64.out.trans HSD.out.1) HSD.out.2.1 ?_; intro w4 hB4 hb4 ho4 hs4; have HB4 := Lib.hid hB4; have HE4 := Lib.hid hb4; have HO4 := Lib.hid ho4; clear hB4 hb4 ho4 hs4))
            exact ⟨⟨j + 1, by omega, by go_num, Lib.hid (by rw [HN2.out]; exact HB4.out), Lib.hid ((HO4.out _ (by omega)).trans HAr.out), Lib.hid ((HO4.out _ (by omega)).trans HZr.out), Lib.hid (HWr.out.trans (HE4.out.mono (by omega)))⟩, by simp [intOf]; omega⟩
          · have hq : q ≠ k := by simpa using t3
            have HM2 := Lib.hid (HM.out hq)
            clear HN HM hq
            go_wp2_with fail
            exact ⟨⟨j + 1, by omega, by go_num, Lib.hid (by rw [HM2.out]; exact HBr.out), HAr, HZr, HWr⟩, by simp [intOf]; omega⟩
        · obtain rfl : j = r.opn.length := by omega
          have hr := HBr.out.range
          rw [List.toList_toArray] at hr
          have HR := Lib.hid hr
          have HSE := Lib.hid (HST.out _ (HRS.out r.opn.length (Nat.le_refl _)))
          clear hr
          obtain ⟨D1, hD1⟩ : ∃ D1, D1 = u8s (rdK r k r.opn.length) := ⟨_, rfl⟩
          rw [← hD1] at HR HSE
          have HD1 := Lib.hid hD1
          clear hD1
          go_wp2_with (first
            | (refine ld 80 _ rfl rfl rfl HR.out Try.underlying80 rfl (by simpa using HSE.out.2.2) ?_)
            | (refine stBlk 80 (.tmp 4) (.tmp 47) rfl rfl rfl rfl HZr.out HSE.out.2.2 (hzl.trans HSE.out.1) HSE.out.2.1 ?_; intro w4 hB4 hb4 ho4 hs4; have HB4 := Lib.hid hB4; have HE4 := Lib.hid hb4; clear hB4 hb4 ho4 hs4))
          have hr4 : w4.rangeAt (w.heap.size + 1) 0 D1 := by have h := HB4.out.range; rw [List.toList_toArray] at h; exact h
          exact bodyPost_ret (results_cellR_tmp rfl _ rfl hr4 Try.underlying80 rfl (by simpa using HSE.out.2.2)) rfl ⟨by rw [HF.out.1, HF.out.2, ← HD1.out]; rfl, HWr.out.trans (HE4.out.mono (by omega))⟩
end Go.Proofs.Ytpkcddnclifcpaa
