import Derived.Test.YtillkpjflcgkeaaGreatMT18
import Derived.Test.YtillkpjflcgkeaaGreatMT16
import Derived.Test.YtillkpjflcgkeaaGreatMT9
set_option linter.unusedSimpArgs false
set_option maxRecDepth 100000
namespace Go.Proofs.YtillkpjflcgkeaaGreat
open Go.RowKit
attribute [local irreducible] wpQuiet wpAnyH
def rcleanD (r : RefD) : RefD := { r with sec := syncN r.sec r.opn r.opn.length, opn := [] }
def rsyncD (r : RefD) : RefD := if r.down then r else if (stepF r).2.1 then rcrashD (rstep r) (stepF r).2.2.1 else if (stepF r).1 then rstep r else rcleanD (rstep r)
def rsyncA (r : RefD) : Int := if r.down then 12 else if (stepF r).2.1 then 12 else if (stepF r).1 then 11 else 0
theorem ROk.clean {r : RefD} (h : ROk r) : ROk (rcleanD r) := by
 have h2 := h.crash (List.replicate r.opn.length 64)
 unfold rcrashD at h2
 rw [crash_whole r.sec r.opn h.sec h.opn] at h2
 exact ⟨h2.sec, h2.opn, h2.ev, h2.few, h2.lo, h2.lp, h2.st⟩
set_option maxHeartbeats 4000000 in
theorem ref_sync (m : RM) (r : RefD) (w : World) (h : RK w m r) (hst : r.steps + 1 ≤ 1000000000) :
  Calls Tryz.prog 71 #[.agg (refC m r)] w fun e w' => ∃ m', e = .returned (.tuple #[.agg (refC m' (rsyncD r)), .int .i64 (rsyncA r)]) ∧ RK w' m' (rsyncD r) ∧ Below w.heap.size w w' ∧ ∀ b ∈ rowsOf m' (rsyncD r), b ∈ rowsOf m r ∨ w.heap.size ≤ b := by
 obtain ⟨As, cs, es⟩ := h.sec.slc
 obtain ⟨Ao, co, eo⟩ := h.opn.slc
 have HK := Lib.hid h
 have HES := Lib.hid es
 have HEO := Lib.hid eo
 have hcells : ∀ r', r'.sec = r.sec → r'.opn = r.opn → r'.down = r.down → refC m r' = #[.slice As r.sec.length cs, .slice Ao r.opn.length co, .bool r.down, .int .i64 r'.steps, m.pv] := fun r' _ _ h3 => by unfold refC; rw [es, eo, h3]
 have HCE := Lib.hid hcells
 obtain ⟨w1, hw1⟩ : ∃ w1, w1 = (w.alloc (.cells (refC m r) 31)).alloc (.cells refZ 31) := ⟨_, rfl⟩
 have hA1 : Blk w1 w.heap.size 31 (refC m r) := by rw [hw1]; exact (Blk.new _ _ _).alloc _
 have hB1 : Blk w1 (w.heap.size + 1) 31 refZ := by rw [hw1]; exact Blk.newAt _ _ _ _ (by simp)
 have hb1 : Below w.heap.size w w1 := by rw [hw1]; exact bstep (bel1 _ _) (bel1 _ _)
 have hc2 := hA1.cell 2
 rw [hcells r rfl rfl rfl] at hc2
 simp only [List.getElem?_toArray, List.getElem?_cons_zero, List.getElem?_cons_succ] at hc2
 have hr1 := hA1.range
 have h1 : (refC m r).all (·.oneCell') = true := refC_one h
 have hlen : ∀ m r, (Tryz.prog.info? 31).map (·.size) = some (refC m r).toList.length := fun _ _ => refI
 have HA1 := Lib.hid hA1
 have HB1 := Lib.hid hB1
 have HW1 := Lib.hid hb1
 have HR1 := Lib.hid hr1
 clear hA1 hB1 hb1 h es eo hcells hr1
 cases hdn : r.down with
 | true =>
  rw [hdn] at hc2
  have HF : Hid (rsyncD r = r ∧ rsyncA r = 12) := jz (by unfold rsyncD rsyncA; rw [hdn]; exact ⟨rfl, rfl⟩)
  clear hdn
  go_enter Tryz.func71, Tryz.ntmps71
  go_upto_region 1 with (refine al 31 refZ rfl rfl zeroRef ?_)
  rw [← hw1]
  clear hw1
  go_wp2_with (first
   | (refine ld 31 _ rfl rfl rfl HR1.out Tryz.underlying31 rfl (hlen m r) ?_)
   | (refine stBlk (cells := refC m r) 31 (.tmp 2) (.tmp 9) rfl rfl rfl rfl HB1.out refI rfl h1 ?_; intro w4 hB4 hb4 ho4 hs4; have HB4 := Lib.hid hB4; have HE4 := Lib.hid hb4; clear hB4 hb4 ho4 hs4))
  have hbw : Below w.heap.size w w4 := HW1.out.trans (HE4.out.mono (by omega))
  have hr4 := HB4.out.range
  exact bodyPost_ret (results_cell1 rfl _ rfl hr4 Tryz.underlying31 rfl (hlen m r)) rfl ⟨m, by rw [HF.out.1, HF.out.2]; rfl, by rw [HF.out.1]; exact HK.out.keep hbw, hbw, by rw [HF.out.1]; exact fun b hb => .inl hb⟩
 | false =>
  rw [hdn] at hc2
  have HDN := Lib.hid hdn
  clear hdn
  have HP := jz (ref_step m r w1 (HK.out.keep HW1.out) hst)
  have hsc := stepF_cuts HK.out
  obtain ⟨⟨fl, cr, cu, cv⟩, hsf⟩ : ∃ x, x = stepF r := ⟨_, rfl⟩
  have HSF := Lib.hid hsf
  rw [← hsf] at HP hsc
  simp only at HP
  have HSC := Lib.hid hsc
  have hRS : RK w m (rstep r) := ⟨HK.out.sec, HK.out.opn, HK.out.plan, HK.out.cuts, HK.out.ok.step hst, HK.out.bl⟩
  have h2 : (refC m (rstep r)).all (·.oneCell') = true := refC_one hRS
  have HRS := Lib.hid hRS
  clear hsf hsc hRS
  go_enter Tryz.func71, Tryz.ntmps71
  go_upto_region 1 with (refine al 31 refZ rfl rfl zeroRef ?_)
  rw [← hw1]
  clear hw1
  go_upto_region 4 with (first
   | (refine ld 31 _ rfl rfl rfl HR1.out Tryz.underlying31 rfl (hlen m r) ?_)
   | (go_at_call 54; refine HP.out.mono ?_; rintro e w2 ⟨rfl, hk2, hb2, hcu⟩)
   | (refine stBlk (cells := refC m (rstep r)) 31 (.tmp 1) (.tmp 13) rfl rfl rfl rfl (HA1.out.keep hb2) refI rfl h2 ?_; intro w3 hB3 hb3 ho3 hs3))
  have HB3 : Hid (Blk w3 (w.heap.size + 1) 31 refZ) := jz ((ho3 _ (by omega)).trans (HB1.out.keep hb2))
  have HA3 : Hid (Blk w3 w.heap.size 31 (refC m (rstep r))) := Lib.hid hB3
  have HW3 : Hid (Below w.heap.size w w3) := jz ((bstep HW1.out hb2).trans hb3)
  have hsz3 : w.heap.size + 2 ≤ w3.heap.size := by have := HB3.out.lt; omega
  clear hB3 hb3 ho3 hs3 hk2 hb2 HP HA1 HB1 HR1 h1 hc2 hcu
  have hr3 := HA3.out.range
  cases cr with
  | true =>
   have HV : Hid (rsyncD r = rcrashD (rstep r) cu ∧ rsyncA r = 12) := jz (by unfold rsyncD rsyncA; rw [HDN.out, ← HSF.out]; exact ⟨rfl, rfl⟩)
   have HP := jz (ref_crash m (rstep r) cv cu w3 (HRS.out.keep HW3.out) (HSC.out.1.below HW3.out) HSC.out.2.1 HSC.out.2.2)
   go_wp2_with (first
    | (refine ld 31 _ rfl rfl rfl hr3 Tryz.underlying31 rfl (hlen _ _) ?_)
    | (go_at_call 34; refine HP.out.mono ?_; rintro e w6 ⟨m6, rfl, hk6, hb6, hr6⟩)
    | (refine stBlk (cells := refC m6 (rcrashD (rstep r) cu)) 31 (.tmp 2) (.tmp 20) rfl rfl rfl rfl (HB3.out.keep hb6) refI rfl (refC_one hk6) ?_; intro w7 hB7 hb7 ho7 hs7; have HB7 := Lib.hid hB7; have HE7 := Lib.hid hb7; have HO7 := Lib.hid ho7; have HS7 := Lib.hid hs7; clear hB7 hb7 ho7 hs7))
   have hbw : Below w.heap.size w w7 := (bstep HW3.out hb6).trans (HE7.out.mono (by omega))
   have hr7 := HB7.out.range
   have hsub : ∀ b ∈ rowsOf m6 (rcrashD (rstep r) cu), b ∈ rowsOf m r ∨ w.heap.size + 2 ≤ b := fun b hm => by
    rcases hr6 b hm with h | h
    ·exact .inl h
    ·exact .inr (by omega)
   refine bodyPost_ret (results_cell1 rfl _ rfl hr7 Tryz.underlying31 rfl (hlen _ _)) rfl ⟨m6, by rw [HV.out.1, HV.out.2]; rfl, by
    rw [HV.out.1]
    exact hk6.offK HO7.out (by rw [HS7.out]; exact Nat.le_refl _) (fun hm => by
     rcases hsub _ hm with h | h
     ·have := HK.out.bl _ h; omega
     ·omega), hbw, fun b hm => by
    rw [HV.out.1] at hm
    rcases hsub b hm with h | h
    ·exact .inl h
    ·exact .inr (by omega)⟩
  | false =>
   cases fl with
   | true =>
    have HV : Hid (rsyncD r = rstep r ∧ rsyncA r = 11) := jz (by unfold rsyncD rsyncA; rw [HDN.out, ← HSF.out]; exact ⟨rfl, rfl⟩)
    go_wp2_with (first
     | (refine ld 31 _ rfl rfl rfl hr3 Tryz.underlying31 rfl (hlen _ _) ?_)
     | (refine stBlk (cells := refC m (rstep r)) 31 (.tmp 2) (.tmp 22) rfl rfl rfl rfl HB3.out refI rfl h2 ?_; intro w7 hB7 hb7 ho7 hs7; have HB7 := Lib.hid hB7; have HE7 := Lib.hid hb7; clear hB7 hb7 ho7 hs7))
    have hbw : Below w.heap.size w w7 := HW3.out.trans (HE7.out.mono (by omega))
    have hr7 := HB7.out.range
    exact bodyPost_ret (results_cell1 rfl _ rfl hr7 Tryz.underlying31 rfl (hlen _ _)) rfl ⟨m, by rw [HV.out.1, HV.out.2]; rfl, by rw [HV.out.1]; exact HRS.out.keep hbw, hbw, fun b hm => by rw [HV.out.1] at hm; exact .inl hm⟩
   | false =>
    have HV : Hid (rsyncD r = rcleanD (rstep r) ∧ rsyncA r = 0) := jz (by unfold rsyncD rsyncA; rw [HDN.out, ← HSF.out]; exact ⟨rfl, rfl⟩)
    obtain ⟨wS, hwS⟩ : ∃ wS, wS = w3.drew := ⟨_, rfl⟩
    have hbS : Below w3.heap.size w3 wS := by rw [hwS]; exact (Below.refl _ _).drew
    have HAS := jz (HA3.out.keep hbS)
    have HBS := jz (HB3.out.keep hbS)
    have HWS := jz (bstep HW3.out hbS)
    have hsS : w.heap.size + 2 ≤ wS.heap.size := by rw [hwS]; exact hsz3
    have HIX : Hid (∀ W, Below wS.heap.size wS W → W.cell? ⟨w.heap.size, 0, none⟩ = some (.slice As r.sec.length cs) ∧ W.cell? ⟨w.heap.size, 1, none⟩ = some (.slice Ao r.opn.length co)) := jz (fun W h => by
     have h1 := HAS.out.keep h
     exact ⟨by rw [h1.cell 0, HCE.out (rstep r) rfl rfl rfl]; rfl, by rw [h1.cell 1, HCE.out (rstep r) rfl rfl rfl]; rfl⟩)
    have HWH := jz (ref_whole r.opn.length wS (by have := HK.out.ok.lo; omega))
    have HCW := jz (crash_whole r.sec r.opn HK.out.ok.sec HK.out.ok.opn)
    have HCR : Hid (∀ (W : World) (Ac : Option Addr) (cc : Nat), Below wS.heap.size wS W → Sn W 1 (.slice Ac r.opn.length cc) r.opn.length (i64s (List.replicate r.opn.length 64)) → Calls Tryz.prog 61 #[.slice As r.sec.length cs, .slice Ao r.opn.length co, .slice Ac r.opn.length cc] W fun e w' => ∃ v, e = .returned v ∧ w'.ownsRow W.heap.size 72 64 v r.sec.length ((syncN r.sec r.opn r.opn.length).flatMap u8s) ∧ Below W.heap.size W w') := jz (fun W Ac cc hb hs => by
     have hl : (List.replicate r.opn.length (64 : Int)).length = r.opn.length := List.length_replicate
     have h := ref_crash15 r.sec r.opn (List.replicate r.opn.length 64) As Ao Ac cs co cc W (by rw [← HES.out]; exact HK.out.sec.below (bstep HWS.out hb)) (by rw [← HEO.out]; exact HK.out.opn.below (bstep HWS.out hb)) (by rw [hl]; exact hs) (fun c hc => by rw [(List.mem_replicate.1 hc).2]; exact ⟨by decide, by decide⟩) HK.out.ok.sec HK.out.ok.opn HK.out.ok.few (by have := HK.out.ok.lo; omega) (by rw [hl]; have := HK.out.ok.lo; omega)
     rw [hl, HCW.out] at h
     exact h)
    go_upto_region 8 with fail
    refine held_start 11 (fun w' => w'.cell? ⟨w.heap.size, 1, none⟩ = some (.slice Ao r.opn.length co)) (by kernel_rfl) (by kernel_rfl) (by rw [← hwS]; exact (HIX.out wS (Below.refl _ _)).2) (fun hHeld => ?_)
    rw [← hwS] at hHeld ⊢
    clear hwS
    refine jT 0 (.fieldAddr 31 (.tmp 1) 0) (some 23) (.pointer (some ⟨w.heap.size, 0, none⟩)) hHeld ?_
    simp only [j1, j2, j3, j4, j5]
    refine jT 2 (.fieldAddr 31 (.tmp 1) 1) (some 25) (.pointer (some ⟨w.heap.size, 1, none⟩)) hHeld ?_
    simp only [j1, j2, j3, j4, j5]
    refine jT 3 (.load 28 (.tmp 25)) (some 26) (.slice Ao r.opn.length co) (hy := fun o ho wX hX => by have hcell : wX.cell? ⟨w.heap.size, 1, none⟩ = some (.slice Ao r.opn.length co) := hX; unfold execOp; simp only [ho]; go_simp) hHeld ?_
    simp only [j1, j2, j3, j4, j5]
    refine jT 4 (.fieldAddr 31 (.tmp 1) 1) (some 27) (.pointer (some ⟨w.heap.size, 1, none⟩)) hHeld ?_
    simp only [j1, j2, j3, j4, j5]
    refine jT 5 (.load 28 (.tmp 27)) (some 28) (.slice Ao r.opn.length co) (hy := fun o ho wX hX => by have hcell : wX.cell? ⟨w.heap.size, 1, none⟩ = some (.slice Ao r.opn.length co) := hX; unfold execOp; simp only [ho]; go_simp) hHeld ?_
    simp only [j1, j2, j3, j4, j5]
    refine jT 6 (.call { callee := Callee.builtin Builtin.len, args := #[.tmp 28], argTypes := #[28] }) (some 29) (.int .i64 (r.opn.length : Int)) hHeld ?_
    simp only [j1, j2, j3, j4, j5]
    refine jW [1, 7] ?_
    refine jS 1 (.load 27 (.tmp 23)) (some 24) (.slice As r.sec.length cs) wS (hrun := fun o ho => by have hcell := (HIX.out _ (Below.refl _ _)).1; unfold execOp; simp only [ho]; go_simp) (HIX.out _ (Below.refl _ _)).2 ?_ (jC 7 (.call { callee := .value (.func 88), args := #[.tmp 29], argTypes := #[3] }) (some 30) 88 #[.int .i64 (r.opn.length : Int)] ?_ jN)
    ·simp only [j1, j2, j3, j4, j5]
     refine jW [7] ?_
     refine jC 7 (.call { callee := .value (.func 88), args := #[.tmp 29], argTypes := #[3] }) (some 30) 88 #[.int .i64 (r.opn.length : Int)] ?_ jN
     refine HWH.out.mono ?_
     rintro e w7 ⟨v7, rfl, ho7, hb7⟩
     obtain ⟨a7, c7, hv7, hs7, _⟩ := own_snD ho7
     subst hv7
     refine ⟨_, rfl, (HIX.out _ hb7).2, fun _ => ?_⟩
     simp only [j1, j2, j3, j4, j5]
     refine jW [8] ?_
     refine jC 8 (.call { callee := .value (.func 61), args := #[.tmp 24, .tmp 26, .tmp 30], argTypes := #[27, 28, 44] }) (some 31) 61 #[.slice As r.sec.length cs, .slice Ao r.opn.length co, .slice a7 r.opn.length c7] ?_ jN
     refine (HCR.out w7 a7 c7 hb7 hs7).mono ?_
     rintro e w9 ⟨v8, rfl, ho9, hb9⟩
     obtain ⟨a8, c8, hv8, hs8, _⟩ := own_snD ho9
     subst hv8
     have hb79 := bstep hb7 hb9
     refine ⟨_, rfl, (HIX.out _ hb79).2, fun hH => ?_⟩
     simp only [j1, j2, j3, j4, j5]
     refine jT 9 (.fieldAddr 31 (.tmp 1) 0) (some 32) (.pointer (some ⟨w.heap.size, 0, none⟩)) hH ?_
     simp only [j1, j2, j3, j4, j5]
     refine jW [10] ?_
     have hc0 := (HIX.out _ hb79).1
     have hf0 := (HAS.out.keep hb79).frozen 0
     refine rSkipR 10 (Op.store 27 (Operand.tmp 32) (Operand.tmp 31)) none (w9.setCell ⟨w.heap.size, 0, none⟩ (.slice a8 r.sec.length c8)) (by kernel_rfl) (by kernel_rfl) (fun o ho => by unfold execOp; simp only [ho]; go_simp) ?_ ?_ jN
     ·have h := ((HAS.out.keep hb79).set_ 0 (.slice a8 r.sec.length c8)).cell 1
      rw [HCE.out (rstep r) rfl rfl rfl] at h
      exact h
     simp only [j1, j2, j3, j4, j5]
     refine wpAnyH_done (by kernel_rfl) ?_ _
     have HA9 := jz (HAS.out.keep hb79)
     have HB9 := jz (HBS.out.keep hb79)
     have HW9 := jz (bstep HWS.out hb79)
     have HO9 := jz (own_base ho9 (Nat.le_trans hsS hb7.size))
     clear hc0 hf0 hH hs8 hs7 ho7 ho9 hb7 hb9 hb79
     obtain ⟨m', hm'⟩ : ∃ m' : RM, m' = ⟨.slice a8 r.sec.length c8, .slice none 0 0, m.pv⟩ := ⟨_, rfl⟩
     have hc1 := (HA9.out.set_ 0 (.slice a8 r.sec.length c8)).cell 1
     have hf1 := (HA9.out.set_ 0 (.slice a8 r.sec.length c8)).frozen 1
     rw [HCE.out (rstep r) rfl rfl rfl] at hc1
     simp only [List.setIfInBounds_toArray, List.set_cons_zero, List.getElem?_toArray, List.getElem?_cons_succ, List.getElem?_cons_zero] at hc1
     obtain ⟨wz, hwz⟩ : ∃ wz, wz = (w9.setCell ⟨w.heap.size, 0, none⟩ (.slice a8 r.sec.length c8)).setCell ⟨w.heap.size, 1, none⟩ (.slice none 0 0) := ⟨_, rfl⟩
     have hAz : Blk wz w.heap.size 31 (refC m' (rcleanD (rstep r))) := by
      rw [hwz, hm']
      exact (HA9.out.set_ 0 _).set_ 1 _
     have hoth : ∀ k, k ≠ w.heap.size → wz.heap[k]? = w9.heap[k]? := fun k hk => by
      rw [hwz]
      exact (Below.heap_setCell _ ⟨w.heap.size, 1, none⟩ _ k hk).trans (Below.heap_setCell _ ⟨w.heap.size, 0, none⟩ _ k hk)
     have hszz : wz.heap.size = w9.heap.size := by rw [hwz]; simp
     have HBz : Hid (Blk wz (w.heap.size + 1) 31 refZ) := jz ((hoth _ (by omega)).trans HB9.out)
     have hbz : Below w.heap.size w wz := by rw [hwz]; exact (HW9.out.setCell (Nat.le_refl _) _).setCell (Nat.le_refl _) _
     have hne : ∀ b, (Value.slice a8 r.sec.length c8).ownBlock = some b → w.heap.size + 2 ≤ b ∧ b < w9.heap.size := fun b e => by have := HO9.out.lt b e; omega
     have hsub : ∀ b ∈ rowsOf m' (rcleanD (rstep r)), b ∈ rowsOf m r ∨ (w.heap.size + 2 ≤ b ∧ b < w9.heap.size) := fun b hm => by
      rw [mem_rows, hm'] at hm
      rcases hm with hm | hm | hm | hm
      ·exact .inr (hne b hm)
      ·cases hm
      ·exact .inl (mem_rows.2 (.inr (.inr (.inl hm))))
      ·exact .inl (mem_rows.2 (.inr (.inr (.inr hm))))
     have hKz : RK wz m' (rcleanD (rstep r)) := by
      have hk := HRS.out.keep hbz
      have hbl : ∀ b ∈ rowsOf m' (rcleanD (rstep r)), b < wz.heap.size := fun b hm => by
       rcases hsub b hm with hm | hm
       ·have := HK.out.bl b hm; have := hbz.size; omega
       ·omega
      rw [hm'] at hbl ⊢
      refine ⟨?_, Sn.nil _ _, hk.plan, hk.cuts, HRS.out.ok.clean, hbl⟩
      show Sn wz 64 (.slice a8 r.sec.length c8) (syncN r.sec r.opn r.opn.length).length _
      rw [syncN_len]
      exact (Sn.own HO9.out).offK hoth (fun e => by have := (hne _ e).1; omega)
     have hrz := hAz.range
     have HRZ := Lib.hid hrz
     have h3 : (refC m' (rcleanD (rstep r))).all (·.oneCell') = true := refC_one hKz
     have HKZ := Lib.hid hKz
     have HBW := Lib.hid hbz
     have HSUB := Lib.hid hsub
     clear hAz hoth hbz hne hsub hKz hrz hm'
     go_upto_region 10 with fail
     rw [← hwz]
     clear hwz hc1 hf1
     go_wp2_with (first
      | (refine ld 31 _ rfl rfl rfl HRZ.out Tryz.underlying31 rfl (hlen _ _) ?_)
      | (refine stBlk (cells := refC m' (rcleanD (rstep r))) 31 (.tmp 2) (.tmp 34) rfl rfl rfl rfl HBz.out refI rfl h3 ?_; intro w7 hB7 hb7 ho7 hs7; have HB7 := Lib.hid hB7; have HE7 := Lib.hid hb7; have HO7 := Lib.hid ho7; have HS7 := Lib.hid hs7; clear hB7 hb7 ho7 hs7))
     have hbw : Below w.heap.size w w7 := HBW.out.trans (HE7.out.mono (by omega))
     have hr7 := HB7.out.range
     exact bodyPost_ret (results_cell1 rfl _ rfl hr7 Tryz.underlying31 rfl (hlen _ _)) rfl ⟨m', by rw [HV.out.1, HV.out.2]; rfl, by
      rw [HV.out.1]
      exact HKZ.out.offK HO7.out (by rw [HS7.out]; exact Nat.le_refl _) (fun hm => by
       rcases HSUB.out _ hm with h | h
       ·have := HK.out.bl _ h; omega
       ·omega), hbw, fun b hm => by
      rw [HV.out.1] at hm
      rcases HSUB.out b hm with h | h
      ·exact .inl h
      ·exact .inr (by omega)⟩
    ·refine HWH.out.mono ?_
     rintro e w7 ⟨v7, rfl, ho7, hb7⟩
     obtain ⟨a7, c7, hv7, hs7, _⟩ := own_snD ho7
     subst hv7
     refine ⟨_, rfl, (HIX.out _ hb7).2, fun _ => ?_⟩
     simp only [j1, j2, j3, j4, j5]
     refine jW [1] ?_
     refine jS 1 (.load 27 (.tmp 23)) (some 24) (.slice As r.sec.length cs) w7 (hrun := fun o ho => by have hcell := (HIX.out _ hb7).1; unfold execOp; simp only [ho]; go_simp) (HIX.out _ hb7).2 ?_ jN
     simp only [j1, j2, j3, j4, j5]
     refine jW [8] ?_
     refine jC 8 (.call { callee := .value (.func 61), args := #[.tmp 24, .tmp 26, .tmp 30], argTypes := #[27, 28, 44] }) (some 31) 61 #[.slice As r.sec.length cs, .slice Ao r.opn.length co, .slice a7 r.opn.length c7] ?_ jN
     refine (HCR.out w7 a7 c7 hb7 hs7).mono ?_
     rintro e w9 ⟨v8, rfl, ho9, hb9⟩
     obtain ⟨a8, c8, hv8, hs8, _⟩ := own_snD ho9
     subst hv8
     have hb79 := bstep hb7 hb9
     refine ⟨_, rfl, (HIX.out _ hb79).2, fun hH => ?_⟩
     simp only [j1, j2, j3, j4, j5]
     refine jT 9 (.fieldAddr 31 (.tmp 1) 0) (some 32) (.pointer (some ⟨w.heap.size, 0, none⟩)) hH ?_
     simp only [j1, j2, j3, j4, j5]
     refine jW [10] ?_
     have hc0 := (HIX.out _ hb79).1
     have hf0 := (HAS.out.keep hb79).frozen 0
     refine rSkipR 10 (Op.store 27 (Operand.tmp 32) (Operand.tmp 31)) none (w9.setCell ⟨w.heap.size, 0, none⟩ (.slice a8 r.sec.length c8)) (by kernel_rfl) (by kernel_rfl) (fun o ho => by unfold execOp; simp only [ho]; go_simp) ?_ ?_ jN
     ·have h := ((HAS.out.keep hb79).set_ 0 (.slice a8 r.sec.length c8)).cell 1
      rw [HCE.out (rstep r) rfl rfl rfl] at h
      exact h
     simp only [j1, j2, j3, j4, j5]
     refine wpAnyH_done (by kernel_rfl) ?_ _
     have HA9 := jz (HAS.out.keep hb79)
     have HB9 := jz (HBS.out.keep hb79)
     have HW9 := jz (bstep HWS.out hb79)
     have HO9 := jz (own_base ho9 (Nat.le_trans hsS hb7.size))
     clear hc0 hf0 hH hs8 hs7 ho7 ho9 hb7 hb9 hb79
     obtain ⟨m', hm'⟩ : ∃ m' : RM, m' = ⟨.slice a8 r.sec.length c8, .slice none 0 0, m.pv⟩ := ⟨_, rfl⟩
     have hc1 := (HA9.out.set_ 0 (.slice a8 r.sec.length c8)).cell 1
     have hf1 := (HA9.out.set_ 0 (.slice a8 r.sec.length c8)).frozen 1
     rw [HCE.out (rstep r) rfl rfl rfl] at hc1
     simp only [List.setIfInBounds_toArray, List.set_cons_zero, List.getElem?_toArray, List.getElem?_cons_succ, List.getElem?_cons_zero] at hc1
     obtain ⟨wz, hwz⟩ : ∃ wz, wz = (w9.setCell ⟨w.heap.size, 0, none⟩ (.slice a8 r.sec.length c8)).setCell ⟨w.heap.size, 1, none⟩ (.slice none 0 0) := ⟨_, rfl⟩
     have hAz : Blk wz w.heap.size 31 (refC m' (rcleanD (rstep r))) := by
      rw [hwz, hm']
      exact (HA9.out.set_ 0 _).set_ 1 _
     have hoth : ∀ k, k ≠ w.heap.size → wz.heap[k]? = w9.heap[k]? := fun k hk => by
      rw [hwz]
      exact (Below.heap_setCell _ ⟨w.heap.size, 1, none⟩ _ k hk).trans (Below.heap_setCell _ ⟨w.heap.size, 0, none⟩ _ k hk)
     have hszz : wz.heap.size = w9.heap.size := by rw [hwz]; simp
     have HBz : Hid (Blk wz (w.heap.size + 1) 31 refZ) := jz ((hoth _ (by omega)).trans HB9.out)
     have hbz : Below w.heap.size w wz := by rw [hwz]; exact (HW9.out.setCell (Nat.le_refl _) _).setCell (Nat.le_refl _) _
     have hne : ∀ b, (Value.slice a8 r.sec.length c8).ownBlock = some b → w.heap.size + 2 ≤ b ∧ b < w9.heap.size := fun b e => by have := HO9.out.lt b e; omega
     have hsub : ∀ b ∈ rowsOf m' (rcleanD (rstep r)), b ∈ rowsOf m r ∨ (w.heap.size + 2 ≤ b ∧ b < w9.heap.size) := fun b hm => by
      rw [mem_rows, hm'] at hm
      rcases hm with hm | hm | hm | hm
      ·exact .inr (hne b hm)
      ·cases hm
      ·exact .inl (mem_rows.2 (.inr (.inr (.inl hm))))
      ·exact .inl (mem_rows.2 (.inr (.inr (.inr hm))))
     have hKz : RK wz m' (rcleanD (rstep r)) := by
      have hk := HRS.out.keep hbz
      have hbl : ∀ b ∈ rowsOf m' (rcleanD (rstep r)), b < wz.heap.size := fun b hm => by
       rcases hsub b hm with hm | hm
       ·have := HK.out.bl b hm; have := hbz.size; omega
       ·omega
      rw [hm'] at hbl ⊢
      refine ⟨?_, Sn.nil _ _, hk.plan, hk.cuts, HRS.out.ok.clean, hbl⟩
      show Sn wz 64 (.slice a8 r.sec.length c8) (syncN r.sec r.opn r.opn.length).length _
      rw [syncN_len]
      exact (Sn.own HO9.out).offK hoth (fun e => by have := (hne _ e).1; omega)
     have hrz := hAz.range
     have HRZ := Lib.hid hrz
     have h3 : (refC m' (rcleanD (rstep r))).all (·.oneCell') = true := refC_one hKz
     have HKZ := Lib.hid hKz
     have HBW := Lib.hid hbz
     have HSUB := Lib.hid hsub
     clear hAz hoth hbz hne hsub hKz hrz hm'
     go_upto_region 10 with fail
     rw [← hwz]
     clear hwz hc1 hf1
     go_wp2_with (first
      | (refine ld 31 _ rfl rfl rfl HRZ.out Tryz.underlying31 rfl (hlen _ _) ?_)
      | (refine stBlk (cells := refC m' (rcleanD (rstep r))) 31 (.tmp 2) (.tmp 34) rfl rfl rfl rfl HBz.out refI rfl h3 ?_; intro w7 hB7 hb7 ho7 hs7; have HB7 := Lib.hid hB7; have HE7 := Lib.hid hb7; have HO7 := Lib.hid ho7; have HS7 := Lib.hid hs7; clear hB7 hb7 ho7 hs7))
     have hbw : Below w.heap.size w w7 := HBW.out.trans (HE7.out.mono (by omega))
     have hr7 := HB7.out.range
     exact bodyPost_ret (results_cell1 rfl _ rfl hr7 Tryz.underlying31 rfl (hlen _ _)) rfl ⟨m', by rw [HV.out.1, HV.out.2]; rfl, by
      rw [HV.out.1]
      exact HKZ.out.offK HO7.out (by rw [HS7.out]; exact Nat.le_refl _) (fun hm => by
       rcases HSUB.out _ hm with h | h
       ·have := HK.out.bl _ h; omega
       ·omega), hbw, fun b hm => by
      rw [HV.out.1] at hm
      rcases HSUB.out b hm with h | h
      ·exact .inl h
      ·exact .inr (by omega)⟩
def wrs : Int → List (List Int) → List (Int × List Int)
 | _, [] => []
 | a, s :: L => (a, s) :: wrs (a + 1) L
def setAll (sec : List (List Int)) (l : List (Int × List Int)) : List (List Int) := l.foldl (fun s p => s.set p.1.toNat p.2) sec
theorem setAll_append (sec : List (List Int)) (l m : List (Int × List Int)) : setAll sec (l ++ m) = setAll (setAll sec l) m := by unfold setAll; rw [List.foldl_append]
theorem setAll_length (l : List (Int × List Int)) : ∀ sec : List (List Int), (setAll sec l).length = sec.length := by
 induction l with
 | nil => intro sec; rfl
 | cons p l ih => intro sec; rw [setAll, List.foldl_cons]; exact (ih _).trans (by simp)
theorem sync_set (r : List (List Int)) (l : List (Int × List Int)) : ∀ j, j ≤ l.length → syncN r l j = setAll r (l.take j)
 | 0, _ => by simp [syncN, setAll]
 | j + 1, h => by
  have hlt : j < l.length := by omega
  rw [syncN, sync_set r l j (by omega), List.take_succ_eq_append_getElem hlt, setAll_append]
  simp [setAll, hlt]
theorem sync_all (r : List (List Int)) (l : List (Int × List Int)) : syncN r l l.length = setAll r l := by rw [sync_set r l _ (Nat.le_refl _), List.take_length]
theorem set_run : ∀ (L : List (List Int)) (a : Int) (sec : List (List Int)), 0 ≤ a → a.toNat + L.length ≤ sec.length → setAll sec (wrs a L) = sec.take a.toNat ++ L ++ sec.drop (a.toNat + L.length)
 | [], a, sec, _, _ => by simp [wrs, setAll]
 | s :: L, a, sec, h0, h => by
  rw [List.length_cons] at h
  have hlt : a.toNat < sec.length := by omega
  have ha : (a + 1).toNat = a.toNat + 1 := by omega
  rw [wrs, show setAll sec ((a, s) :: wrs (a + 1) L) = setAll (sec.set a.toNat s) (wrs (a + 1) L) from rfl]
  rw [set_run L (a + 1) _ (by omega) (by rw [List.length_set]; omega), ha, List.length_cons]
  rw [show (sec.set a.toNat s).take (a.toNat + 1) = sec.take a.toNat ++ [s] by
   rw [List.take_succ_eq_append_getElem (by rw [List.length_set]; exact hlt), List.take_set_of_le (Nat.le_refl _), List.getElem_set_self]]
  rw [List.drop_set_of_lt (by omega), List.append_assoc, List.append_assoc, List.append_assoc, show a.toNat + 1 + L.length = a.toNat + (L.length + 1) by omega]
  rfl
theorem entRec_len {q : Ent2} (hq : EntOk q) : (q.1 ++ beB 8 q.2.toNat).length ≤ 54 := by rw [List.length_append, hq.dig.len, beB_length]; omega
end Go.Proofs.YtillkpjflcgkeaaGreat
