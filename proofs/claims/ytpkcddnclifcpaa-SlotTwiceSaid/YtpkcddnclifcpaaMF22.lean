/- Parts: tolllaw18.play. -/
import Derived.Test.YtpkcddnclifcpaaMF21
namespace Go.Proofs.Ytpkcddnclifcpaa
open Go.RowKit
attribute [local irreducible] wpQuiet wpAnyH
set_option linter.unusedSimpArgs false

/-- The result is stored into its box. -/
theorem PX.fin {w0 w wx wz : World} {m0 m : DiskM} {d : DiskD} {mr0 mr mb : RM} {r0 r rb : RefD} {o : Op18} {F : Int} (h : PX w0 w wx m0 m d mr0 r0 mr r mb rb o F) (hb : Below (w.heap.size + 2) wx wz) (ho : ∀ k, k ≠ w.heap.size + 2 → wz.heap[k]? = wx.heap[k]?) :
    PB w0 wz m d mr r ∧ DT w m0 wz m ∧ ∀ b ∈ rowsOf mr r, b ∈ rowsOf mr0 r0 ∨ w.heap.size ≤ b :=
  have p := h.pbK 2 (by omega) hb ho
  ⟨p.1, p.2, fun b hm => by
    rcases h.sub b hm with h1 | h1
    · exact .inl h1
    · exact .inr (by omega)⟩
theorem BX.op {w wx : World} {mb : RM} {rb : RefD} {o : Op18} {F : Int} (h : BX w wx mb rb o F) : Blk wx (w.heap.size + 1) 67 (opC18 o).toArray := h.2.1
theorem RK.start {w : World} {m : RM} {r : RefD} (h : RK w m r) : RK w m (rstartD r) := ⟨h.sec, h.opn, h.plan, h.cuts, ⟨h.ok.sec, h.ok.opn, h.ok.ev, h.ok.few, h.ok.lo, h.ok.lp, h.ok.st⟩, h.bl⟩

set_option maxRecDepth 100000 in
set_option maxHeartbeats 8000000 in
theorem play_any (w0 w : World) (m : DiskM) (d : DiskD) (mr : RM) (r : RefD) (o : Op18) (h : PB w0 w m d mr r) (ho : Op18Ok w0 o) (hfw : Few18 o) (hr : d.room + 20000 ≤ 100000) (hst : r.steps + 20000 ≤ 1000000000) (hon : r.opn.length + 20000 ≤ 50000) (hpl : r.plan.length + 1 ≤ 50000) :
    Calls Try.prog 24 #[.pointer (some ⟨m.g, 0, none⟩), .agg (refC mr r), .agg (opC18 o).toArray] w fun e w' => ∃ m' mr' v b, e = .returned (.tuple #[.agg (refC mr' (playR r o v)), .bool b]) ∧ PB w0 w' m' (playD d o) mr' (playR r o v) ∧ DT w m w' m' ∧ ∀ b ∈ rowsOf mr' (playR r o v), b ∈ rowsOf mr r ∨ w.heap.size ≤ b := by
  have HPB := Lib.hid h
  have HO := Lib.hid ho
  have HE := Lib.hid ho.ent
  have hlen : ∀ m r, (Try.prog.info? 48).map (·.size) = some (refC m r).toList.length := fun _ _ => refI
  have HUE : Hid ((Try.prog.info? 26).map (·.size) = some (entP o.ent).length) := Lib.hid (by rw [entP_length o.ent ho.ent]; kernel_rfl)
  have h40 := opC18_length o ho
  obtain ⟨w1, hw1⟩ : ∃ w1, w1 = ((w.alloc (.cells (refC mr r) 48)).alloc (.cells (opC18 o).toArray 67)).alloc (.cells refZ 48) := ⟨_, rfl⟩
  have HA1 : Hid (Blk w1 w.heap.size 48 (refC mr r)) := Lib.hid (by rw [hw1]; exact ((Blk.new _ _ _).alloc _).alloc _)
  have HO1 : Hid (Blk w1 (w.heap.size + 1) 67 (opC18 o).toArray) := Lib.hid (by rw [hw1]; exact (Blk.newAt _ _ _ _ (by simp)).alloc _)
  have HB1 : Hid (Blk w1 (w.heap.size + 2) 48 refZ) := Lib.hid (by rw [hw1]; exact Blk.newAt _ _ _ _ (by simp))
  have HW1 : Hid (Below w.heap.size w w1) := Lib.hid (by rw [hw1]; exact bstep (bstep (bel1 _ _) (bel1 _ _)) (bel1 _ _))
  have hsz1 : w1.heap.size = w.heap.size + 3 := by rw [hw1]; simp
  obtain ⟨c0, c1, c2, c3, cE, cm, cb, cc⟩ := op_cells ho.ent HO1.out
  obtain ⟨F, hF⟩ : ∃ F, F = fromOf o := ⟨_, rfl⟩
  have hF2 : 0 ≤ F ∧ F ≤ 5 := by rw [hF]; unfold fromOf; split <;> omega
  have hF64 : isI64 F := ⟨by omega, by omega⟩
  have HF := Lib.hid hF.symm
  clear h ho c0 c1 c3 cE cm cb cc
  go_enter Try.func24, Try.ntmps24
  go_upto_region 1 with (refine al 48 refZ rfl rfl zeroRef ?_)
  rw [← hw1]
  clear hw1
  obtain ⟨hb, hhb⟩ : ∃ b, b = o.half := ⟨_, rfl⟩
  have HFv : Hid (F = if hb then 5 else 0) := Lib.hid (by rw [hF, hhb]; rfl)
  rw [← hhb] at c2
  clear hF hhb
  go_upto_if 12 with fail
  go_cut [8] from 11 to 12 (fun x wx => x = .int .i64 F ∧ wx = w1)
  case first =>
    cases hb with
    | false =>
      go_wp2_with fail
      go_meet
      exact ⟨by rw [HFv.out]; rfl, by trivial⟩
    | true =>
      go_wp2_with fail
      go_meet
      exact ⟨by rw [HFv.out]; rfl, by trivial⟩
  case rest =>
  obtain ⟨rfl, rfl⟩ := hcut
  clear HFv c2
  have hone2 : (#[Value.int .i64 F, .int .i64 5] : Array Value).all (·.oneCell') = true := by simp [Value.oneCell']
  go_upto_region 5 with (first
    | (refine al 30 #[.int .i64 0, .int .i64 0] rfl rfl (fun _ => rfl) ?_)
    | (refine stNew (cells := #[.int .i64 F, .int .i64 5]) 30 (.tmp 9) (.tmp 14) rfl rfl (by rfl) (by rfl) (by kernel_rfl) (by rfl) hone2 ?_; intro w4 hB4 hb4 hs4))
  rw [hsz1] at hB4 hb4 ⊢
  have HX : Hid (PX w0 w w4 m m d mr r mr r mr r o F) := Lib.hid (by
    have hbw : Below w.heap.size w w4 := HW1.out.trans (hb4.mono (by omega))
    have hb4' : Below wc.heap.size wc w4 := by rw [hsz1]; exact hb4
    exact ⟨HPB.out.keep hbw, DT.of_below hbw, fun b hb => .inl hb, HA1.out.keep hb4', HO1.out.keep hb4', HB1.out.keep hb4', hB4, fun i hi => Apart.fresh HPB.out.st.dk (by omega), HPB.out.st.bel.size, HPB.out.rk.bl⟩)
  clear HA1 HO1 HB1 HW1 hB4 hb4 hs4 hsz1
  obtain ⟨c0, c1, c2, c3, cE, cm, cb, cc⟩ := op_cells HE.out HX.out.bo
  obtain ⟨Am, nm, em⟩ := HO.out.more.slc
  obtain ⟨Ac, nc, ec⟩ := HO.out.cuts.slc
  rw [em] at cm
  rw [ec] at cc
  have HEM := Lib.hid em
  have HEC := Lib.hid ec
  clear em ec c2
  have hrD := HX.out.bd.range
  have HR0 : Hid (o.pos ≤ 1048576 ∧ -1048576 ≤ o.pos ∧ o.more.length ≤ 20 ∧ o.cuts.length ≤ 20) := Lib.hid ⟨hfw.2.2.2, hfw.2.2.1, hfw.2.1, hfw.1⟩
  have hg4 : o.gen < 4294967296 := HO.out.gen
  have hby : o.byte ≤ 255 := HO.out.byte
  have HP64 := Lib.hid HO.out.pos
  have HMO : Hid (∀ wx, Below w0.heap.size w0 wx → Sn wx 33 (.slice Am o.more.length nm) o.more.length (o.more.flatMap entP)) := Lib.hid (fun wx hb => by rw [← HEM.out]; exact HO.out.more.below hb)
  have HCU : Hid (∀ wx, Below w0.heap.size w0 wx → Sn wx 1 (.slice Ac o.cuts.length nc) o.cuts.length (i64s o.cuts)) := Lib.hid (fun wx hb => by rw [← HEC.out]; exact HO.out.cuts.below hb)
  clear hfw
  rcases Bool.eq_false_or_eq_true (o.kind == 0) with t0 | t0
  · have hk : o.kind = 0 := by simpa using t0
    have HV : Hid (playD d o = putD d F 5 o.pos o.gen o.ent ∧ ∀ v, playR r o v = rputD r F 5 o.pos o.gen o.ent) := Lib.hid ⟨by unfold playD; rw [if_pos hk]; rw [HF.out], fun v => by unfold playR; rw [if_pos hk]; rw [HF.out]⟩
    have HP := Lib.hid (ref_put18 mr r F 5 o.pos o.gen o.ent w4 HX.out.pb.rk HE.out ⟨hF2.1, by omega⟩ ⟨⟨by decide, by decide⟩, by decide⟩ HP64.out (by omega) (by omega))
    go_upto_region 9 with (first
      | (refine ld 48 _ rfl rfl rfl hrD Try.underlying48 rfl (hlen _ _) ?_)
      | (refine ld 26 _ rfl rfl rfl cE Try.underlying26 rfl HUE.out ?_)
      | (go_at_call 41; refine HP.out.mono ?_; rintro e w5 ⟨m5, rfl, hk5, hb5, hs5⟩)
      | (refine stBlk (cells := refC m5 (rputD r F 5 o.pos o.gen o.ent)) 48 (.tmp 4) (.tmp 29) rfl rfl rfl rfl (HX.out.bd.keep hb5) refI rfl (refC_one hk5) ?_; intro w6 hB6 hb6 ho6 hs6))
    have HX6 := Lib.hid ((HX.out.ref hb5 hk5 hs5).box hB6 hb6 ho6)
    clear HX hB6 hb6 ho6 hs6 hk5 hb5 hs5 HP hrD c0 c1 c3 cE cm cb cc
    obtain ⟨wS, hwS⟩ : ∃ wS, wS = w6.drew := ⟨_, rfl⟩
    have HXS := Lib.hid (HX6.out.keep (wy := wS) (by rw [hwS]; exact (Below.refl _ _).drew))
    have HCD : Hid (isI64 (codeA (putA d F 5 o.pos o.gen o.ent))) := Lib.hid (putA_code _ _ _ _ _ _)
    refine held_start 15 (fun w' => BX w w' m5 (rputD r F 5 o.pos o.gen o.ent) o F) (by kernel_rfl) (by kernel_rfl) (by rw [← hwS]; exact HXS.out.bx) (fun hHeld => ?_)
    rw [← hwS] at hHeld ⊢
    clear hwS
    refine hLoad 0 48 (Operand.tmp 4) (some 31) (cs := (refC m5 (rputD r F 5 o.pos o.gen o.ent)).toList) (by kernel_rfl) (by kernel_rfl) (by kernel_rfl) (by kernel_rfl) (by kernel_rfl) (fun _ _ _ h => h) (by exact rfl) (fun _ hX => hX.1.range) Try.underlying48 rfl (hlen _ _) hHeld ?_
    simp only [Act.put, List.setIfInBounds_toArray, List.set_cons_zero, List.set_cons_succ]
    refine hMove 1 (Operand.tmp 0) (some 32) (.pointer (some ⟨m.g, 0, none⟩)) (by kernel_rfl) (by kernel_rfl) (by kernel_rfl) (by kernel_rfl) (by kernel_rfl) (fun _ _ _ h => h) (by exact rfl) hHeld ?_
    simp only [Act.put, List.setIfInBounds_toArray, List.set_cons_zero, List.set_cons_succ]
    refine hLoad 2 30 (Operand.tmp 9) (some 33) (cs := [.int .i64 F, .int .i64 5]) (by kernel_rfl) (by kernel_rfl) (by kernel_rfl) (by kernel_rfl) (by kernel_rfl) (fun _ _ _ h => h) (by exact rfl) (fun _ hX => hX.sl) Try.underlying30 rfl (by kernel_rfl) hHeld ?_
    simp only [Act.put, List.setIfInBounds_toArray, List.set_cons_zero, List.set_cons_succ]
    refine hTake 3 (Op.fieldAddr 67 (Operand.tmp 5) 1) (some 34) (.pointer (some ⟨w.heap.size + 1, 1, none⟩)) (by kernel_rfl) (by kernel_rfl) (by kernel_rfl) (by kernel_rfl) (by kernel_rfl) (fun _ _ _ h => h) (fun o ho wX hX => by unfold execOp; simp only [ho]; go_simp) hHeld ?_
    simp only [Act.put, List.setIfInBounds_toArray, List.set_cons_zero, List.set_cons_succ]
    refine hTake 4 (Op.load 3 (Operand.tmp 34)) (some 35) (.int .i64 o.pos) (by kernel_rfl) (by kernel_rfl) (by kernel_rfl) (by kernel_rfl) (by kernel_rfl) (fun _ _ _ h => h) (fun o ho wX hX => by have hcell := (op_cells HE.out hX.op).2.1; unfold execOp; simp only [ho]; go_simp) hHeld ?_
    simp only [Act.put, List.setIfInBounds_toArray, List.set_cons_zero, List.set_cons_succ]
    refine hTake 5 (Op.fieldAddr 67 (Operand.tmp 5) 3) (some 36) (.pointer (some ⟨w.heap.size + 1, 3, none⟩)) (by kernel_rfl) (by kernel_rfl) (by kernel_rfl) (by kernel_rfl) (by kernel_rfl) (fun _ _ _ h => h) (fun o ho wX hX => by unfold execOp; simp only [ho]; go_simp) hHeld ?_
    simp only [Act.put, List.setIfInBounds_toArray, List.set_cons_zero, List.set_cons_succ]
    refine hTake 6 (Op.load 39 (Operand.tmp 36)) (some 37) (.int .u32 o.gen) (by kernel_rfl) (by kernel_rfl) (by kernel_rfl) (by kernel_rfl) (by kernel_rfl) (fun _ _ _ h => h) (fun o ho wX hX => by have hcell := (op_cells HE.out hX.op).2.2.2.1; unfold execOp; simp only [ho]; go_simp) hHeld ?_
    simp only [Act.put, List.setIfInBounds_toArray, List.set_cons_zero, List.set_cons_succ]
    refine hTake 7 (Op.fieldAddr 67 (Operand.tmp 5) 4) (some 38) (.pointer (some ⟨w.heap.size + 1, 4, none⟩)) (by kernel_rfl) (by kernel_rfl) (by kernel_rfl) (by kernel_rfl) (by kernel_rfl) (fun _ _ _ h => h) (fun o ho wX hX => by unfold execOp; simp only [ho]; go_simp) hHeld ?_
    simp only [Act.put, List.setIfInBounds_toArray, List.set_cons_zero, List.set_cons_succ]
    refine hLoad 8 26 (Operand.tmp 38) (some 39) (cs := entP o.ent) (by kernel_rfl) (by kernel_rfl) (by kernel_rfl) (by kernel_rfl) (by kernel_rfl) (fun _ _ _ h => h) (by exact rfl) (fun _ hX => (op_cells HE.out hX.op).2.2.2.2.1) Try.underlying26 rfl HUE.out hHeld ?_
    simp only [Act.put, List.setIfInBounds_toArray, List.set_cons_zero, List.set_cons_succ]
    refine hMove 11 (Operand.tmp 10) (some 42) (.int .i64 (rputA r F 5 o.pos o.gen o.ent)) (by kernel_rfl) (by kernel_rfl) (by kernel_rfl) (by kernel_rfl) (by kernel_rfl) (fun _ _ _ h => h) (by exact rfl) hHeld ?_
    simp only [Act.put, List.setIfInBounds_toArray, List.set_cons_zero, List.set_cons_succ]
    refine wpAnyH_ready (rs := [9]) (by kernel_rfl) (by simp) ?_
    refine rCall 9 (Op.call { callee := Callee.value (Operand.func 11), args := #[Operand.tmp 32, Operand.tmp 33, Operand.tmp 35, Operand.tmp 37, Operand.tmp 39], argTypes := #[34, 30, 3, 39, 26] }) (some 40) 11 (#[.pointer (some ⟨m.g, 0, none⟩), .agg #[.int .i64 F, .int .i64 5], .int .i64 o.pos, .int .u32 o.gen, .agg (entP o.ent).toArray]) (by kernel_rfl) (by kernel_rfl) (fun o ho => by unfold execOp; simp only [ho]; go_simp) ?_ AllReadyH.nil
    refine (slot_put F 5 o.pos o.gen o.ent wS m d HXS.out.pb.st.dk ⟨hF2.1, by omega⟩ ⟨⟨by decide, by decide⟩, by decide⟩ HP64.out hg4 HE.out (by omega)).mono ?_
    rintro e w8 ⟨rfl, m9, hk8, ht8⟩
    have HX8 := Lib.hid (HXS.out.disk hk8 ht8)
    clear hk8 ht8
    refine ⟨_, rfl, HX8.out.bx, fun hHeld => ?_⟩
    simp only [Act.put, List.setIfInBounds_toArray, List.set_cons_zero, List.set_cons_succ]
    refine wpAnyH_ready (rs := [10]) (by kernel_rfl) (by simp) ?_
    refine rCall 10 (Op.call { callee := Callee.value (Operand.func 13), args := #[Operand.tmp 40], argTypes := #[37] }) (some 41) 13 (#[valE (putA d F 5 o.pos o.gen o.ent)]) (by kernel_rfl) (by kernel_rfl) (fun o ho => by unfold execOp; simp only [ho]; go_simp) ?_ AllReadyH.nil
    refine (code18 (putA d F 5 o.pos o.gen o.ent) w8 HCD.out).mono ?_
    rintro e w9 ⟨rfl, hb9⟩
    have HX9 := Lib.hid (HX8.out.keep hb9)
    clear hb9
    refine ⟨_, rfl, HX9.out.bx, fun hHeld => ?_⟩
    simp only [Act.put, List.setIfInBounds_toArray, List.set_cons_zero, List.set_cons_succ]
    refine hTake 12 (Op.binOp BinOp.eql 3 (Operand.tmp 41) (Operand.tmp 42) 3) (some 43) (.bool (codeA (putA d F 5 o.pos o.gen o.ent) == rputA r F 5 o.pos o.gen o.ent)) (by kernel_rfl) (by kernel_rfl) (by kernel_rfl) (by kernel_rfl) (by kernel_rfl) (fun _ _ _ h => h) (fun o ho wX hX => by unfold execOp; simp only [ho]; go_simp) hHeld ?_
    simp only [Act.put, List.setIfInBounds_toArray, List.set_cons_zero, List.set_cons_succ]
    have hoth : ∀ k, k ≠ w.heap.size + 2 → (w9.setCells (w.heap.size + 2) 0 (refC m5 (rputD r F 5 o.pos o.gen o.ent)).toList).heap[k]? = w9.heap[k]? := fun k hk => setCells_other hk _ _ _
    have hS9 : BX w (w9.setCells (w.heap.size + 2) 0 (refC m5 (rputD r F 5 o.pos o.gen o.ent)).toList) m5 (rputD r F 5 o.pos o.gen o.ent) o F := HX9.out.bx.offZ hoth
    have honel : ∀ u ∈ (refC m5 (rputD r F 5 o.pos o.gen o.ent)).toList, u.oneCell' = true := fun u hu => by have := refC_one HX9.out.pb.rk; rw [Array.all_eq_true_iff_forall_mem] at this; exact this u (by simpa using hu)
    refine wpAnyH_ready (rs := [13]) (by kernel_rfl) (by simp) ?_
    refine rStoreS 13 48 (.tmp 6) (.tmp 31) none (cs := (refC m5 (rputD r F 5 o.pos o.gen o.ent)).toList) (by kernel_rfl) (by kernel_rfl) (by exact rfl) (by exact rfl) (there_all HX9.out.bz rfl) (hlen _ _) honel hS9 ?_ AllReadyH.nil
    simp only [Act.put, List.setIfInBounds_toArray, List.set_cons_zero, List.set_cons_succ]
    refine wpAnyH_ready (rs := [14]) (by kernel_rfl) (by simp) ?_
    refine rStep 14 (Op.assign (Operand.tmp 43)) (some 7) (.bool (codeA (putA d F 5 o.pos o.gen o.ent) == rputA r F 5 o.pos o.gen o.ent)) (w9.setCells (w.heap.size + 2) 0 (refC m5 (rputD r F 5 o.pos o.gen o.ent)).toList) (by kernel_rfl) (by kernel_rfl) (fun o ho => by unfold execOp; simp only [ho]; go_simp) hS9 ?_ AllReadyH.nil
    simp only [Act.put, List.setIfInBounds_toArray, List.set_cons_zero, List.set_cons_succ]
    refine wpAnyH_done (by kernel_rfl) ?_ _
    have HBZ : Hid (Blk (w9.setCells (w.heap.size + 2) 0 (refC m5 (rputD r F 5 o.pos o.gen o.ent)).toList) (w.heap.size + 2) 48 (refC m5 (rputD r F 5 o.pos o.gen o.ent))) := Lib.hid (Blk.setAll _ HX9.out.bz rfl)
    have HFIN := Lib.hid (HX9.out.fin (wz := (w9.setCells (w.heap.size + 2) 0 (refC m5 (rputD r F 5 o.pos o.gen o.ent)).toList)) (setCells_below (Nat.le_refl _) _ _ _).1 hoth)
    obtain ⟨wz, hwz⟩ : ∃ wz, wz = (w9.setCells (w.heap.size + 2) 0 (refC m5 (rputD r F 5 o.pos o.gen o.ent)).toList) := ⟨_, rfl⟩
    rw [← hwz] at HBZ HFIN ⊢
    clear hwz hS9 hoth honel HX9
    go_wp2_with fail
    have hr7 := HBZ.out.range
    exact bodyPost_ret (results_cell1 rfl _ rfl hr7 Try.underlying48 rfl (hlen _ _)) rfl ⟨m9, m5, .slice none 0 0, (codeA (putA d F 5 o.pos o.gen o.ent) == rputA r F 5 o.pos o.gen o.ent), by rw [HV.out.2]; rfl, by rw [HV.out.1, HV.out.2]; exact HFIN.out.1, HFIN.out.2.1, by rw [HV.out.2]; exact HFIN.out.2.2⟩
  rcases Bool.eq_false_or_eq_true (o.kind == 1) with t1 | t1
  · have n0 : ¬ o.kind = 0 := by simpa using t0
    have hk : o.kind = 1 := by simpa using t1
    have HV : Hid (playD d o = (fillR d F 5 o.gen o.more).2 ∧ ∀ v, playR r o v = (rfillD r F 5 o.gen o.more).1) := Lib.hid ⟨by unfold playD; rw [if_neg n0, if_pos hk]; rw [HF.out], fun v => by unfold playR; rw [if_neg n0, if_pos hk]; rw [HF.out]⟩
    have HP := Lib.hid (ref_fill mr r F 5 o.gen o.more Am nm w4 HX.out.pb.rk (HMO.out w4 HX.out.pb.st.bel) HO.out.mok ⟨hF2.1, by omega⟩ ⟨by decide, by decide⟩ (by have := HR0.out; omega) (by omega) (by omega))
    go_upto_region 12 with (first
      | (refine ld 48 _ rfl rfl rfl hrD Try.underlying48 rfl (hlen _ _) ?_)
      | (go_at_call 16; refine HP.out.mono ?_; rintro e w5 ⟨m5, rfl, hk5, hb5, hs5⟩)
      | (refine stBlk (cells := refC m5 ((rfillD r F 5 o.gen o.more).1)) 48 (.tmp 4) (.tmp 54) rfl rfl rfl rfl (HX.out.bd.keep hb5) refI rfl (refC_one hk5) ?_; intro w6 hB6 hb6 ho6 hs6))
    have HX6 := Lib.hid ((HX.out.ref hb5 hk5 hs5).box hB6 hb6 ho6)
    clear HX hB6 hb6 ho6 hs6 hk5 hb5 hs5 HP hrD c0 c1 c3 cE cm cb cc
    obtain ⟨wS, hwS⟩ : ∃ wS, wS = w6.drew := ⟨_, rfl⟩
    have HXS := Lib.hid (HX6.out.keep (wy := wS) (by rw [hwS]; exact (Below.refl _ _).drew))
    have HCD : Hid (isI64 (codeA ((fillR d F 5 o.gen o.more).1))) := Lib.hid (fillR_code _ _ _ _ _)
    refine held_start 13 (fun w' => BX w w' m5 ((rfillD r F 5 o.gen o.more).1) o F) (by kernel_rfl) (by kernel_rfl) (by rw [← hwS]; exact HXS.out.bx) (fun hHeld => ?_)
    rw [← hwS] at hHeld ⊢
    clear hwS
    refine hLoad 0 48 (Operand.tmp 4) (some 56) (cs := (refC m5 ((rfillD r F 5 o.gen o.more).1)).toList) (by kernel_rfl) (by kernel_rfl) (by kernel_rfl) (by kernel_rfl) (by kernel_rfl) (fun _ _ _ h => h) (by exact rfl) (fun _ hX => hX.1.range) Try.underlying48 rfl (hlen _ _) hHeld ?_
    simp only [Act.put, List.setIfInBounds_toArray, List.set_cons_zero, List.set_cons_succ]
    refine hMove 1 (Operand.tmp 0) (some 57) (.pointer (some ⟨m.g, 0, none⟩)) (by kernel_rfl) (by kernel_rfl) (by kernel_rfl) (by kernel_rfl) (by kernel_rfl) (fun _ _ _ h => h) (by exact rfl) hHeld ?_
    simp only [Act.put, List.setIfInBounds_toArray, List.set_cons_zero, List.set_cons_succ]
    refine hLoad 2 30 (Operand.tmp 9) (some 58) (cs := [.int .i64 F, .int .i64 5]) (by kernel_rfl) (by kernel_rfl) (by kernel_rfl) (by kernel_rfl) (by kernel_rfl) (fun _ _ _ h => h) (by exact rfl) (fun _ hX => hX.sl) Try.underlying30 rfl (by kernel_rfl) hHeld ?_
    simp only [Act.put, List.setIfInBounds_toArray, List.set_cons_zero, List.set_cons_succ]
    refine hTake 3 (Op.fieldAddr 67 (Operand.tmp 5) 3) (some 59) (.pointer (some ⟨w.heap.size + 1, 3, none⟩)) (by kernel_rfl) (by kernel_rfl) (by kernel_rfl) (by kernel_rfl) (by kernel_rfl) (fun _ _ _ h => h) (fun o ho wX hX => by unfold execOp; simp only [ho]; go_simp) hHeld ?_
    simp only [Act.put, List.setIfInBounds_toArray, List.set_cons_zero, List.set_cons_succ]
    refine hTake 4 (Op.load 39 (Operand.tmp 59)) (some 60) (.int .u32 o.gen) (by kernel_rfl) (by kernel_rfl) (by kernel_rfl) (by kernel_rfl) (by kernel_rfl) (fun _ _ _ h => h) (fun o ho wX hX => by have hcell := (op_cells HE.out hX.op).2.2.2.1; unfold execOp; simp only [ho]; go_simp) hHeld ?_
    simp only [Act.put, List.setIfInBounds_toArray, List.set_cons_zero, List.set_cons_succ]
    refine hTake 5 (Op.fieldAddr 67 (Operand.tmp 5) 5) (some 61) (.pointer (some ⟨w.heap.size + 1, 37, none⟩)) (by kernel_rfl) (by kernel_rfl) (by kernel_rfl) (by kernel_rfl) (by kernel_rfl) (fun _ _ _ h => h) (fun o ho wX hX => by unfold execOp; simp only [ho]; go_simp) hHeld ?_
    simp only [Act.put, List.setIfInBounds_toArray, List.set_cons_zero, List.set_cons_succ]
    refine hTake 6 (Op.load 27 (Operand.tmp 61)) (some 62) (.slice Am o.more.length nm) (by kernel_rfl) (by kernel_rfl) (by kernel_rfl) (by kernel_rfl) (by kernel_rfl) (fun _ _ _ h => h) (fun o ho wX hX => by have hcell := (op_cells HE.out hX.op).2.2.2.2.2.1; rw [HEM.out] at hcell; unfold execOp; simp only [ho]; go_simp) hHeld ?_
    simp only [Act.put, List.setIfInBounds_toArray, List.set_cons_zero, List.set_cons_succ]
    refine hMove 9 (Operand.tmp 10) (some 65) (.int .i64 ((rfillD r F 5 o.gen o.more).2)) (by kernel_rfl) (by kernel_rfl) (by kernel_rfl) (by kernel_rfl) (by kernel_rfl) (fun _ _ _ h => h) (by exact rfl) hHeld ?_
    simp only [Act.put, List.setIfInBounds_toArray, List.set_cons_zero, List.set_cons_succ]
    refine wpAnyH_ready (rs := [7]) (by kernel_rfl) (by simp) ?_
    refine rCall 7 (Op.call { callee := Callee.value (Operand.func 15), args := #[Operand.tmp 57, Operand.tmp 58, Operand.tmp 60, Operand.tmp 62], argTypes := #[34, 30, 39, 27] }) (some 63) 15 (#[.pointer (some ⟨m.g, 0, none⟩), .agg #[.int .i64 F, .int .i64 5], .int .u32 o.gen, .slice Am o.more.length nm]) (by kernel_rfl) (by kernel_rfl) (fun o ho => by unfold execOp; simp only [ho]; go_simp) ?_ AllReadyH.nil
    refine (slot_fill F 5 o.gen o.more Am nm wS m d HXS.out.pb.st.dk (HMO.out wS HXS.out.pb.st.bel) HO.out.mok ⟨hF2.1, by omega⟩ ⟨⟨by decide, by decide⟩, by decide⟩ hg4 (by have := HR0.out; omega) (by omega)).mono ?_
    rintro e w8 ⟨rfl, m9, hk8, ht8⟩
    have HX8 := Lib.hid (HXS.out.disk hk8 ht8)
    clear hk8 ht8
    refine ⟨_, rfl, HX8.out.bx, fun hHeld => ?_⟩
    simp only [Act.put, List.setIfInBounds_toArray, List.set_cons_zero, List.set_cons_succ]
    refine wpAnyH_ready (rs := [8]) (by kernel_rfl) (by simp) ?_
    refine rCall 8 (Op.call { callee := Callee.value (Operand.func 13), args := #[Operand.tmp 63], argTypes := #[37] }) (some 64) 13 (#[valE ((fillR d F 5 o.gen o.more).1)]) (by kernel_rfl) (by kernel_rfl) (fun o ho => by unfold execOp; simp only [ho]; go_simp) ?_ AllReadyH.nil
    refine (code18 ((fillR d F 5 o.gen o.more).1) w8 HCD.out).mono ?_
    rintro e w9 ⟨rfl, hb9⟩
    have HX9 := Lib.hid (HX8.out.keep hb9)
    clear hb9
    refine ⟨_, rfl, HX9.out.bx, fun hHeld => ?_⟩
    simp only [Act.put, List.setIfInBounds_toArray, List.set_cons_zero, List.set_cons_succ]
    refine hTake 10 (Op.binOp BinOp.eql 3 (Operand.tmp 64) (Operand.tmp 65) 3) (some 66) (.bool (codeA ((fillR d F 5 o.gen o.more).1) == (rfillD r F 5 o.gen o.more).2)) (by kernel_rfl) (by kernel_rfl) (by kernel_rfl) (by kernel_rfl) (by kernel_rfl) (fun _ _ _ h => h) (fun o ho wX hX => by unfold execOp; simp only [ho]; go_simp) hHeld ?_
    simp only [Act.put, List.setIfInBounds_toArray, List.set_cons_zero, List.set_cons_succ]
    have hoth : ∀ k, k ≠ w.heap.size + 2 → (w9.setCells (w.heap.size + 2) 0 (refC m5 ((rfillD r F 5 o.gen o.more).1)).toList).heap[k]? = w9.heap[k]? := fun k hk => setCells_other hk _ _ _
    have hS9 : BX w (w9.setCells (w.heap.size + 2) 0 (refC m5 ((rfillD r F 5 o.gen o.more).1)).toList) m5 ((rfillD r F 5 o.gen o.more).1) o F := HX9.out.bx.offZ hoth
    have honel : ∀ u ∈ (refC m5 ((rfillD r F 5 o.gen o.more).1)).toList, u.oneCell' = true := fun u hu => by have := refC_one HX9.out.pb.rk; rw [Array.all_eq_true_iff_forall_mem] at this; exact this u (by simpa using hu)
    refine wpAnyH_ready (rs := [11]) (by kernel_rfl) (by simp) ?_
    refine rStoreS 11 48 (.tmp 6) (.tmp 56) none (cs := (refC m5 ((rfillD r F 5 o.gen o.more).1)).toList) (by kernel_rfl) (by kernel_rfl) (by exact rfl) (by exact rfl) (there_all HX9.out.bz rfl) (hlen _ _) honel hS9 ?_ AllReadyH.nil
    simp only [Act.put, List.setIfInBounds_toArray, List.set_cons_zero, List.set_cons_succ]
    refine wpAnyH_ready (rs := [12]) (by kernel_rfl) (by simp) ?_
    refine rStep 12 (Op.assign (Operand.tmp 66)) (some 7) (.bool (codeA ((fillR d F 5 o.gen o.more).1) == (rfillD r F 5 o.gen o.more).2)) (w9.setCells (w.heap.size + 2) 0 (refC m5 ((rfillD r F 5 o.gen o.more).1)).toList) (by kernel_rfl) (by kernel_rfl) (fun o ho => by unfold execOp; simp only [ho]; go_simp) hS9 ?_ AllReadyH.nil
    simp only [Act.put, List.setIfInBounds_toArray, List.set_cons_zero, List.set_cons_succ]
    refine wpAnyH_done (by kernel_rfl) ?_ _
    have HBZ : Hid (Blk (w9.setCells (w.heap.size + 2) 0 (refC m5 ((rfillD r F 5 o.gen o.more).1)).toList) (w.heap.size + 2) 48 (refC m5 ((rfillD r F 5 o.gen o.more).1))) := Lib.hid (Blk.setAll _ HX9.out.bz rfl)
    have HFIN := Lib.hid (HX9.out.fin (wz := (w9.setCells (w.heap.size + 2) 0 (refC m5 ((rfillD r F 5 o.gen o.more).1)).toList)) (setCells_below (Nat.le_refl _) _ _ _).1 hoth)
    obtain ⟨wz, hwz⟩ : ∃ wz, wz = (w9.setCells (w.heap.size + 2) 0 (refC m5 ((rfillD r F 5 o.gen o.more).1)).toList) := ⟨_, rfl⟩
    rw [← hwz] at HBZ HFIN ⊢
    clear hwz hS9 hoth honel HX9
    go_wp2_with fail
    have hr7 := HBZ.out.range
    exact bodyPost_ret (results_cell1 rfl _ rfl hr7 Try.underlying48 rfl (hlen _ _)) rfl ⟨m9, m5, .slice none 0 0, (codeA ((fillR d F 5 o.gen o.more).1) == (rfillD r F 5 o.gen o.more).2), by rw [HV.out.2]; rfl, by rw [HV.out.1, HV.out.2]; exact HFIN.out.1, HFIN.out.2.1, by rw [HV.out.2]; exact HFIN.out.2.2⟩
  rcases Bool.eq_false_or_eq_true (o.kind == 2) with t2 | t2
  · have n0 : ¬ o.kind = 0 := by simpa using t0
    have n1 : ¬ o.kind = 1 := by simpa using t1
    have hk : o.kind = 2 := by simpa using t2
    have HV : Hid (playD d o = wsD d F (rec o.gen toll) ∧ ∀ v, playR r o v = rwsD r F (rec o.gen toll)) := Lib.hid ⟨by unfold playD; rw [if_neg n0, if_neg n1, if_pos hk]; rw [HF.out], fun v => by unfold playR; rw [if_neg n0, if_neg n1, if_pos hk]; rw [HF.out]⟩
    have HP := Lib.hid (ref_commit mr r F o.gen w4 HX.out.pb.rk hF64 (by omega) (by omega))
    go_upto_region 15 with (first
      | (refine ld 48 _ rfl rfl rfl hrD Try.underlying48 rfl (hlen _ _) ?_)
      | (go_at_call 42; refine HP.out.mono ?_; rintro e w5 ⟨m5, rfl, hk5, hb5, hs5⟩)
      | (refine stBlk (cells := refC m5 (rwsD r F (rec o.gen toll))) 48 (.tmp 4) (.tmp 75) rfl rfl rfl rfl (HX.out.bd.keep hb5) refI rfl (refC_one hk5) ?_; intro w6 hB6 hb6 ho6 hs6))
    have HX6 := Lib.hid ((HX.out.ref hb5 hk5 hs5).box hB6 hb6 ho6)
    clear HX hB6 hb6 ho6 hs6 hk5 hb5 hs5 HP hrD c0 c1 c3 cE cm cb cc
    obtain ⟨wS, hwS⟩ : ∃ wS, wS = w6.drew := ⟨_, rfl⟩
    have HXS := Lib.hid (HX6.out.keep (wy := wS) (by rw [hwS]; exact (Below.refl _ _).drew))
    have HCD : Hid (isI64 (codeA (wsA d F (rec o.gen toll)))) := Lib.hid (wsA_code _ _ _)
    refine held_start 11 (fun w' => BX w w' m5 (rwsD r F (rec o.gen toll)) o F) (by kernel_rfl) (by kernel_rfl) (by rw [← hwS]; exact HXS.out.bx) (fun hHeld => ?_)
    rw [← hwS] at hHeld ⊢
    clear hwS
    refine hLoad 0 48 (Operand.tmp 4) (some 77) (cs := (refC m5 (rwsD r F (rec o.gen toll))).toList) (by kernel_rfl) (by kernel_rfl) (by kernel_rfl) (by kernel_rfl) (by kernel_rfl) (fun _ _ _ h => h) (by exact rfl) (fun _ hX => hX.1.range) Try.underlying48 rfl (hlen _ _) hHeld ?_
    simp only [Act.put, List.setIfInBounds_toArray, List.set_cons_zero, List.set_cons_succ]
    refine hMove 1 (Operand.tmp 0) (some 78) (.pointer (some ⟨m.g, 0, none⟩)) (by kernel_rfl) (by kernel_rfl) (by kernel_rfl) (by kernel_rfl) (by kernel_rfl) (fun _ _ _ h => h) (by exact rfl) hHeld ?_
    simp only [Act.put, List.setIfInBounds_toArray, List.set_cons_zero, List.set_cons_succ]
    refine hLoad 2 30 (Operand.tmp 9) (some 79) (cs := [.int .i64 F, .int .i64 5]) (by kernel_rfl) (by kernel_rfl) (by kernel_rfl) (by kernel_rfl) (by kernel_rfl) (fun _ _ _ h => h) (by exact rfl) (fun _ hX => hX.sl) Try.underlying30 rfl (by kernel_rfl) hHeld ?_
    simp only [Act.put, List.setIfInBounds_toArray, List.set_cons_zero, List.set_cons_succ]
    refine hTake 3 (Op.fieldAddr 67 (Operand.tmp 5) 3) (some 80) (.pointer (some ⟨w.heap.size + 1, 3, none⟩)) (by kernel_rfl) (by kernel_rfl) (by kernel_rfl) (by kernel_rfl) (by kernel_rfl) (fun _ _ _ h => h) (fun o ho wX hX => by unfold execOp; simp only [ho]; go_simp) hHeld ?_
    simp only [Act.put, List.setIfInBounds_toArray, List.set_cons_zero, List.set_cons_succ]
    refine hTake 4 (Op.load 39 (Operand.tmp 80)) (some 81) (.int .u32 o.gen) (by kernel_rfl) (by kernel_rfl) (by kernel_rfl) (by kernel_rfl) (by kernel_rfl) (fun _ _ _ h => h) (fun o ho wX hX => by have hcell := (op_cells HE.out hX.op).2.2.2.1; unfold execOp; simp only [ho]; go_simp) hHeld ?_
    simp only [Act.put, List.setIfInBounds_toArray, List.set_cons_zero, List.set_cons_succ]
    refine hMove 7 (Operand.tmp 10) (some 84) (.int .i64 (rwsA r F (rec o.gen toll))) (by kernel_rfl) (by kernel_rfl) (by kernel_rfl) (by kernel_rfl) (by kernel_rfl) (fun _ _ _ h => h) (by exact rfl) hHeld ?_
    simp only [Act.put, List.setIfInBounds_toArray, List.set_cons_zero, List.set_cons_succ]
    refine wpAnyH_ready (rs := [5]) (by kernel_rfl) (by simp) ?_
    refine rCall 5 (Op.call { callee := Callee.value (Operand.func 18), args := #[Operand.tmp 78, Operand.tmp 79, Operand.tmp 81], argTypes := #[34, 30, 39] }) (some 82) 18 (#[.pointer (some ⟨m.g, 0, none⟩), .agg #[.int .i64 F, .int .i64 5], .int .u32 o.gen]) (by kernel_rfl) (by kernel_rfl) (fun o ho => by unfold execOp; simp only [ho]; go_simp) ?_ AllReadyH.nil
    refine (slot_commit F 5 o.gen wS m d HXS.out.pb.st.dk hF64 hg4 (by omega)).mono ?_
    rintro e w8 ⟨rfl, m9, hk8, ht8⟩
    have HX8 := Lib.hid (HXS.out.disk hk8 ht8)
    clear hk8 ht8
    refine ⟨_, rfl, HX8.out.bx, fun hHeld => ?_⟩
    simp only [Act.put, List.setIfInBounds_toArray, List.set_cons_zero, List.set_cons_succ]
    refine wpAnyH_ready (rs := [6]) (by kernel_rfl) (by simp) ?_
    refine rCall 6 (Op.call { callee := Callee.value (Operand.func 13), args := #[Operand.tmp 82], argTypes := #[37] }) (some 83) 13 (#[valE (wsA d F (rec o.gen toll))]) (by kernel_rfl) (by kernel_rfl) (fun o ho => by unfold execOp; simp only [ho]; go_simp) ?_ AllReadyH.nil
    refine (code18 (wsA d F (rec o.gen toll)) w8 HCD.out).mono ?_
    rintro e w9 ⟨rfl, hb9⟩
    have HX9 := Lib.hid (HX8.out.keep hb9)
    clear hb9
    refine ⟨_, rfl, HX9.out.bx, fun hHeld => ?_⟩
    simp only [Act.put, List.setIfInBounds_toArray, List.set_cons_zero, List.set_cons_succ]
    refine hTake 8 (Op.binOp BinOp.eql 3 (Operand.tmp 83) (Operand.tmp 84) 3) (some 85) (.bool (codeA (wsA d F (rec o.gen toll)) == rwsA r F (rec o.gen toll))) (by kernel_rfl) (by kernel_rfl) (by kernel_rfl) (by kernel_rfl) (by kernel_rfl) (fun _ _ _ h => h) (fun o ho wX hX => by unfold execOp; simp only [ho]; go_simp) hHeld ?_
    simp only [Act.put, List.setIfInBounds_toArray, List.set_cons_zero, List.set_cons_succ]
    have hoth : ∀ k, k ≠ w.heap.size + 2 → (w9.setCells (w.heap.size + 2) 0 (refC m5 (rwsD r F (rec o.gen toll))).toList).heap[k]? = w9.heap[k]? := fun k hk => setCells_other hk _ _ _
    have hS9 : BX w (w9.setCells (w.heap.size + 2) 0 (refC m5 (rwsD r F (rec o.gen toll))).toList) m5 (rwsD r F (rec o.gen toll)) o F := HX9.out.bx.offZ hoth
    have honel : ∀ u ∈ (refC m5 (rwsD r F (rec o.gen toll))).toList, u.oneCell' = true := fun u hu => by have := refC_one HX9.out.pb.rk; rw [Array.all_eq_true_iff_forall_mem] at this; exact this u (by simpa using hu)
    refine wpAnyH_ready (rs := [9]) (by kernel_rfl) (by simp) ?_
    refine rStoreS 9 48 (.tmp 6) (.tmp 77) none (cs := (refC m5 (rwsD r F (rec o.gen toll))).toList) (by kernel_rfl) (by kernel_rfl) (by exact rfl) (by exact rfl) (there_all HX9.out.bz rfl) (hlen _ _) honel hS9 ?_ AllReadyH.nil
    simp only [Act.put, List.setIfInBounds_toArray, List.set_cons_zero, List.set_cons_succ]
    refine wpAnyH_ready (rs := [10]) (by kernel_rfl) (by simp) ?_
    refine rStep 10 (Op.assign (Operand.tmp 85)) (some 7) (.bool (codeA (wsA d F (rec o.gen toll)) == rwsA r F (rec o.gen toll))) (w9.setCells (w.heap.size + 2) 0 (refC m5 (rwsD r F (rec o.gen toll))).toList) (by kernel_rfl) (by kernel_rfl) (fun o ho => by unfold execOp; simp only [ho]; go_simp) hS9 ?_ AllReadyH.nil
    simp only [Act.put, List.setIfInBounds_toArray, List.set_cons_zero, List.set_cons_succ]
    refine wpAnyH_done (by kernel_rfl) ?_ _
    have HBZ : Hid (Blk (w9.setCells (w.heap.size + 2) 0 (refC m5 (rwsD r F (rec o.gen toll))).toList) (w.heap.size + 2) 48 (refC m5 (rwsD r F (rec o.gen toll)))) := Lib.hid (Blk.setAll _ HX9.out.bz rfl)
    have HFIN := Lib.hid (HX9.out.fin (wz := (w9.setCells (w.heap.size + 2) 0 (refC m5 (rwsD r F (rec o.gen toll))).toList)) (setCells_below (Nat.le_refl _) _ _ _).1 hoth)
    obtain ⟨wz, hwz⟩ : ∃ wz, wz = (w9.setCells (w.heap.size + 2) 0 (refC m5 (rwsD r F (rec o.gen toll))).toList) := ⟨_, rfl⟩
    rw [← hwz] at HBZ HFIN ⊢
    clear hwz hS9 hoth honel HX9
    go_wp2_with fail
    have hr7 := HBZ.out.range
    exact bodyPost_ret (results_cell1 rfl _ rfl hr7 Try.underlying48 rfl (hlen _ _)) rfl ⟨m9, m5, .slice none 0 0, (codeA (wsA d F (rec o.gen toll)) == rwsA r F (rec o.gen toll)), by rw [HV.out.2]; rfl, by rw [HV.out.1, HV.out.2]; exact HFIN.out.1, HFIN.out.2.1, by rw [HV.out.2]; exact HFIN.out.2.2⟩
  rcases Bool.eq_false_or_eq_true (o.kind == 3) with t3 | t3
  · have n0 : ¬ o.kind = 0 := by simpa using t0
    have n1 : ¬ o.kind = 1 := by simpa using t1
    have n2 : ¬ o.kind = 2 := by simpa using t2
    have hk : o.kind = 3 := by simpa using t3
    have HV : Hid (playD d o = writeD d o.pos (fillL o.byte) ∧ ∀ v, playR r o v = rwriteD r o.pos (fillL o.byte)) := Lib.hid ⟨by unfold playD; rw [if_neg n0, if_neg n1, if_neg n2, if_pos hk], fun v => by unfold playR; rw [if_neg n0, if_neg n1, if_neg n2, if_pos hk]⟩
    go_upto_region 17 with fail
    obtain ⟨wS, hwS⟩ : ∃ wS, wS = w4.drew := ⟨_, rfl⟩
    have HXS := Lib.hid (HX.out.keep (wy := wS) (by rw [hwS]; exact (Below.refl _ _).drew))
    clear hrD c0 c1 c3 cE cm cb cc
    refine held_start 12 (fun w' => Blk w' (w.heap.size + 1) 67 (opC18 o).toArray) (by kernel_rfl) (by kernel_rfl) (by rw [← hwS]; exact HXS.out.bo) (fun hHeld => ?_)
    rw [← hwS] at hHeld ⊢
    clear hwS
    refine hTake 1 (Op.fieldAddr 67 (Operand.tmp 5) 1) (some 90) (.pointer (some ⟨w.heap.size + 1, 1, none⟩)) (by kernel_rfl) (by kernel_rfl) (by kernel_rfl) (by kernel_rfl) (by kernel_rfl) (fun _ _ _ h => h) (fun o ho wX hX => by unfold execOp; simp only [ho]; go_simp) hHeld ?_
    simp only [Act.put, List.setIfInBounds_toArray, List.set_cons_zero, List.set_cons_succ]
    refine hTake 2 (Op.load 3 (Operand.tmp 90)) (some 91) (.int .i64 o.pos) (by kernel_rfl) (by kernel_rfl) (by kernel_rfl) (by kernel_rfl) (by kernel_rfl) (fun _ _ _ h => h) (fun o ho wX hX => by have hcell := (op_cells HE.out hX).2.1; unfold execOp; simp only [ho]; go_simp) hHeld ?_
    simp only [Act.put, List.setIfInBounds_toArray, List.set_cons_zero, List.set_cons_succ]
    refine hTake 3 (Op.fieldAddr 67 (Operand.tmp 5) 6) (some 92) (.pointer (some ⟨w.heap.size + 1, 38, none⟩)) (by kernel_rfl) (by kernel_rfl) (by kernel_rfl) (by kernel_rfl) (by kernel_rfl) (fun _ _ _ h => h) (fun o ho wX hX => by unfold execOp; simp only [ho]; go_simp) hHeld ?_
    simp only [Act.put, List.setIfInBounds_toArray, List.set_cons_zero, List.set_cons_succ]
    refine hTake 4 (Op.load 5 (Operand.tmp 92)) (some 93) (.int .u8 o.byte) (by kernel_rfl) (by kernel_rfl) (by kernel_rfl) (by kernel_rfl) (by kernel_rfl) (fun _ _ _ h => h) (fun o ho wX hX => by have hcell := (op_cells HE.out hX).2.2.2.2.2.2.1; unfold execOp; simp only [ho]; go_simp) hHeld ?_
    simp only [Act.put, List.setIfInBounds_toArray, List.set_cons_zero, List.set_cons_succ]
    have HWR := Lib.hid (fun W (hk : PX w0 w W m m d mr r mr r mr r o F) => ref_write mr r o.pos (fillL o.byte) W hk.pb.rk (fillL_sec o.byte hby) HP64.out (by omega) (by omega))
    refine wpAnyH_ready (rs := [0, 5]) (by kernel_rfl) (by simp) ?_
    refine rLoadS 0 48 (.tmp 4) (some 89) (cs := (refC mr r).toList) (by kernel_rfl) (by kernel_rfl) (by exact rfl) HXS.out.bd.range Try.underlying48 rfl (hlen _ _) HXS.out.bo ?_ (rCall 5 (Op.call { callee := Callee.value (Operand.func 43), args := #[Operand.tmp 93], argTypes := #[5] }) (some 94) 43 #[.int .u8 o.byte] (by kernel_rfl) (by kernel_rfl) (fun o ho => by unfold execOp; simp only [ho]; go_simp) ?_ AllReadyH.nil)
    · simp only [Act.put, List.setIfInBounds_toArray, List.set_cons_zero, List.set_cons_succ]
      refine wpAnyH_ready (rs := [5]) (by kernel_rfl) (by simp) ?_
      refine rCall 5 (Op.call { callee := Callee.value (Operand.func 43), args := #[Operand.tmp 93], argTypes := #[5] }) (some 94) 43 #[.int .u8 o.byte] (by kernel_rfl) (by kernel_rfl) (fun o ho => by unfold execOp; simp only [ho]; go_simp) ?_ AllReadyH.nil
      refine (ref_fill15 o.byte wS hby).mono ?_
      rintro e w5 ⟨rfl, hb5⟩
      have HX5 := Lib.hid (HXS.out.keep hb5)
      clear hb5
      refine ⟨_, rfl, HX5.out.bo, fun hHeld => ?_⟩
      simp only [Act.put, List.setIfInBounds_toArray, List.set_cons_zero, List.set_cons_succ]
      refine wpAnyH_ready (rs := [6]) (by kernel_rfl) (by simp) ?_
      refine rCall 6 (Op.call { callee := Callee.value (Operand.func 32), args := #[Operand.tmp 89, Operand.tmp 91, Operand.tmp 94], argTypes := #[48, 3, 80] }) (some 95) 32 #[.agg (refC mr r), .int .i64 o.pos, .agg (u8s (fillL o.byte)).toArray] (by kernel_rfl) (by kernel_rfl) (fun o ho => by unfold execOp; simp only [ho]; go_simp) ?_ AllReadyH.nil
      refine (HWR.out _ HX5.out).mono ?_
      rintro e w6 ⟨m6, rfl, hk6, hb6, hs6⟩
      have HX6 := Lib.hid (HX5.out.ref hb6 hk6 hs6)
      clear hk6 hb6 hs6
      refine ⟨_, rfl, HX6.out.bo, fun hHeld => ?_⟩
      simp only [Act.put, List.setIfInBounds_toArray, List.set_cons_zero, List.set_cons_succ]
      refine hTake 7 (Op.move (Operand.tmp 95)) (some 88) (.tuple #[.agg (refC m6 (rwriteD r o.pos (fillL o.byte))), .int .i64 (rwriteA r o.pos)]) (by kernel_rfl) (by kernel_rfl) (by kernel_rfl) (by kernel_rfl) (by kernel_rfl) (fun _ _ _ h => h) (fun o ho wX hX => by unfold execOp; simp only [ho]; go_simp) hHeld ?_
      simp only [Act.put, List.setIfInBounds_toArray, List.set_cons_zero, List.set_cons_succ]
      refine hTake 8 (Op.extract (Operand.tmp 88) 0) (some 96) (.agg (refC m6 (rwriteD r o.pos (fillL o.byte)))) (by kernel_rfl) (by kernel_rfl) (by kernel_rfl) (by kernel_rfl) (by kernel_rfl) (fun _ _ _ h => h) (fun o ho wX hX => by unfold execOp; simp only [ho]; go_simp) hHeld ?_
      simp only [Act.put, List.setIfInBounds_toArray, List.set_cons_zero, List.set_cons_succ]
      refine hTake 9 (Op.extract (Operand.tmp 88) 1) (some 97) (.int .i64 (rwriteA r o.pos)) (by kernel_rfl) (by kernel_rfl) (by kernel_rfl) (by kernel_rfl) (by kernel_rfl) (fun _ _ _ h => h) (fun o ho wX hX => by unfold execOp; simp only [ho]; go_simp) hHeld ?_
      simp only [Act.put, List.setIfInBounds_toArray, List.set_cons_zero, List.set_cons_succ]
      have hoth : ∀ k, k ≠ w.heap.size → (w6.setCells w.heap.size 0 (refC m6 (rwriteD r o.pos (fillL o.byte))).toList).heap[k]? = w6.heap[k]? := fun k hk => setCells_other hk _ _ _
      have HX7 : Hid (PX w0 w (w6.setCells w.heap.size 0 (refC m6 (rwriteD r o.pos (fillL o.byte))).toList) m m d mr r m6 (rwriteD r o.pos (fillL o.byte)) m6 (rwriteD r o.pos (fillL o.byte)) o F) := Lib.hid (HX6.out.box (Blk.setAll _ HX6.out.bd rfl) (setCells_below (Nat.le_refl _) _ _ _).1 hoth)
      have honel : ∀ u ∈ (refC m6 (rwriteD r o.pos (fillL o.byte))).toList, u.oneCell' = true := fun u hu => by have := refC_one HX6.out.pb.rk; rw [Array.all_eq_true_iff_forall_mem] at this; exact this u (by simpa using hu)
      refine wpAnyH_ready (rs := [10]) (by kernel_rfl) (by simp) ?_
      refine rStoreS 10 48 (.tmp 4) (.tmp 96) none (cs := (refC m6 (rwriteD r o.pos (fillL o.byte))).toList) (by kernel_rfl) (by kernel_rfl) (by exact rfl) (by exact rfl) (there_all HX6.out.bd rfl) (hlen _ _) honel HX7.out.bo ?_ AllReadyH.nil
      simp only [Act.put, List.setIfInBounds_toArray, List.set_cons_zero, List.set_cons_succ]
      refine wpAnyH_ready (rs := [11]) (by kernel_rfl) (by simp) ?_
      refine rStep 11 (Op.assign (Operand.tmp 97)) (some 10) (.int .i64 (rwriteA r o.pos)) (w6.setCells w.heap.size 0 (refC m6 (rwriteD r o.pos (fillL o.byte))).toList) (by kernel_rfl) (by kernel_rfl) (fun o ho => by unfold execOp; simp only [ho]; go_simp) HX7.out.bo ?_ AllReadyH.nil
      simp only [Act.put, List.setIfInBounds_toArray, List.set_cons_zero, List.set_cons_succ]
      refine wpAnyH_done (by kernel_rfl) ?_ _
      clear hHeld
      obtain ⟨w7, hw7⟩ : ∃ w7, w7 = (w6.setCells w.heap.size 0 (refC m6 (rwriteD r o.pos (fillL o.byte))).toList) := ⟨_, rfl⟩
      rw [← hw7] at HX7 ⊢
      clear hw7 hoth honel HX6 HX5
      go_upto_region 18 with fail
      clear HXS
      obtain ⟨wS, hwS⟩ : ∃ wS, wS = w7.drew := ⟨_, rfl⟩
      have HXS := Lib.hid (HX7.out.keep (wy := wS) (by rw [hwS]; exact (Below.refl _ _).drew))
      have HCD : Hid (isI64 (codeA (writeA d o.pos))) := Lib.hid (writeA_code _ _)
      refine held_start 13 (fun w' => BX w w' m6 (rwriteD r o.pos (fillL o.byte)) o F) (by kernel_rfl) (by kernel_rfl) (by rw [← hwS]; exact HXS.out.bx) (fun hHeld => ?_)
      rw [← hwS] at hHeld ⊢
      clear hwS
      refine hLoad 0 48 (Operand.tmp 4) (some 98) (cs := (refC m6 (rwriteD r o.pos (fillL o.byte))).toList) (by kernel_rfl) (by kernel_rfl) (by kernel_rfl) (by kernel_rfl) (by kernel_rfl) (fun _ _ _ h => h) (by exact rfl) (fun _ hX => hX.1.range) Try.underlying48 rfl (hlen _ _) hHeld ?_
      simp only [Act.put, List.setIfInBounds_toArray, List.set_cons_zero, List.set_cons_succ]
      refine hMove 1 (Operand.tmp 0) (some 99) (.pointer (some ⟨m.g, 0, none⟩)) (by kernel_rfl) (by kernel_rfl) (by kernel_rfl) (by kernel_rfl) (by kernel_rfl) (fun _ _ _ h => h) (by exact rfl) hHeld ?_
      simp only [Act.put, List.setIfInBounds_toArray, List.set_cons_zero, List.set_cons_succ]
      refine hTake 2 (Op.fieldAddr 67 (Operand.tmp 5) 1) (some 100) (.pointer (some ⟨w.heap.size + 1, 1, none⟩)) (by kernel_rfl) (by kernel_rfl) (by kernel_rfl) (by kernel_rfl) (by kernel_rfl) (fun _ _ _ h => h) (fun o ho wX hX => by unfold execOp; simp only [ho]; go_simp) hHeld ?_
      simp only [Act.put, List.setIfInBounds_toArray, List.set_cons_zero, List.set_cons_succ]
      refine hTake 3 (Op.load 3 (Operand.tmp 100)) (some 101) (.int .i64 o.pos) (by kernel_rfl) (by kernel_rfl) (by kernel_rfl) (by kernel_rfl) (by kernel_rfl) (fun _ _ _ h => h) (fun o ho wX hX => by have hcell := (op_cells HE.out hX.op).2.1; unfold execOp; simp only [ho]; go_simp) hHeld ?_
      simp only [Act.put, List.setIfInBounds_toArray, List.set_cons_zero, List.set_cons_succ]
      refine hTake 4 (Op.fieldAddr 67 (Operand.tmp 5) 6) (some 102) (.pointer (some ⟨w.heap.size + 1, 38, none⟩)) (by kernel_rfl) (by kernel_rfl) (by kernel_rfl) (by kernel_rfl) (by kernel_rfl) (fun _ _ _ h => h) (fun o ho wX hX => by unfold execOp; simp only [ho]; go_simp) hHeld ?_
      simp only [Act.put, List.setIfInBounds_toArray, List.set_cons_zero, List.set_cons_succ]
      refine hTake 5 (Op.load 5 (Operand.tmp 102)) (some 103) (.int .u8 o.byte) (by kernel_rfl) (by kernel_rfl) (by kernel_rfl) (by kernel_rfl) (by kernel_rfl) (fun _ _ _ h => h) (fun o ho wX hX => by have hcell := (op_cells HE.out hX.op).2.2.2.2.2.2.1; unfold execOp; simp only [ho]; go_simp) hHeld ?_
      simp only [Act.put, List.setIfInBounds_toArray, List.set_cons_zero, List.set_cons_succ]
      refine hMove 9 (Operand.tmp 10) (some 107) (.int .i64 (rwriteA r o.pos)) (by kernel_rfl) (by kernel_rfl) (by kernel_rfl) (by kernel_rfl) (by kernel_rfl) (fun _ _ _ h => h) (by exact rfl) hHeld ?_
      simp only [Act.put, List.setIfInBounds_toArray, List.set_cons_zero, List.set_cons_succ]
      refine wpAnyH_ready (rs := [6]) (by kernel_rfl) (by simp) ?_
      refine rCall 6 (Op.call { callee := Callee.value (Operand.func 43), args := #[Operand.tmp 103], argTypes := #[5] }) (some 104) 43 (#[.int .u8 o.byte]) (by kernel_rfl) (by kernel_rfl) (fun o ho => by unfold execOp; simp only [ho]; go_simp) ?_ AllReadyH.nil
      refine (ref_fill15 o.byte wS hby).mono ?_
      rintro e w7 ⟨rfl, hb7⟩
      have HX7 := Lib.hid (HXS.out.keep hb7)
      clear hb7
      refine ⟨_, rfl, HX7.out.bx, fun hHeld => ?_⟩
      simp only [Act.put, List.setIfInBounds_toArray, List.set_cons_zero, List.set_cons_succ]
      refine wpAnyH_ready (rs := [7]) (by kernel_rfl) (by simp) ?_
      refine rCall 7 (Op.call { callee := Callee.value (Operand.func 29), args := #[Operand.tmp 99, Operand.tmp 101, Operand.tmp 104], argTypes := #[34, 3, 80] }) (some 105) 29 (#[.pointer (some ⟨m.g, 0, none⟩), .int .i64 o.pos, .agg (u8s (fillL o.byte)).toArray]) (by kernel_rfl) (by kernel_rfl) (fun o ho => by unfold execOp; simp only [ho]; go_simp) ?_ AllReadyH.nil
      have HDW := Lib.hid (disk_write o.pos (fillL o.byte) w7 m d HX7.out.pb.st.dk HP64.out (fillL_sec o.byte hby) (by omega))
      rw [writeE_val] at HDW
      refine HDW.out.mono ?_
      rintro e w8 ⟨rfl, m9, hk8, ht8⟩
      have HX8 := Lib.hid (HX7.out.disk hk8 ht8)
      clear hk8 ht8
      refine ⟨_, rfl, HX8.out.bx, fun hHeld => ?_⟩
      simp only [Act.put, List.setIfInBounds_toArray, List.set_cons_zero, List.set_cons_succ]
      refine wpAnyH_ready (rs := [8]) (by kernel_rfl) (by simp) ?_
      refine rCall 8 (Op.call { callee := Callee.value (Operand.func 13), args := #[Operand.tmp 105], argTypes := #[37] }) (some 106) 13 (#[valE (writeA d o.pos)]) (by kernel_rfl) (by kernel_rfl) (fun o ho => by unfold execOp; simp only [ho]; go_simp) ?_ AllReadyH.nil
      refine (code18 (writeA d o.pos) w8 HCD.out).mono ?_
      rintro e w9 ⟨rfl, hb9⟩
      have HX9 := Lib.hid (HX8.out.keep hb9)
      clear hb9
      refine ⟨_, rfl, HX9.out.bx, fun hHeld => ?_⟩
      simp only [Act.put, List.setIfInBounds_toArray, List.set_cons_zero, List.set_cons_succ]
      refine hTake 10 (Op.binOp BinOp.eql 3 (Operand.tmp 106) (Operand.tmp 107) 3) (some 108) (.bool (codeA (writeA d o.pos) == rwriteA r o.pos)) (by kernel_rfl) (by kernel_rfl) (by kernel_rfl) (by kernel_rfl) (by kernel_rfl) (fun _ _ _ h => h) (fun o ho wX hX => by unfold execOp; simp only [ho]; go_simp) hHeld ?_
      simp only [Act.put, List.setIfInBounds_toArray, List.set_cons_zero, List.set_cons_succ]
      have hoth : ∀ k, k ≠ w.heap.size + 2 → (w9.setCells (w.heap.size + 2) 0 (refC m6 (rwriteD r o.pos (fillL o.byte))).toList).heap[k]? = w9.heap[k]? := fun k hk => setCells_other hk _ _ _
      have hS9 : BX w (w9.setCells (w.heap.size + 2) 0 (refC m6 (rwriteD r o.pos (fillL o.byte))).toList) m6 (rwriteD r o.pos (fillL o.byte)) o F := HX9.out.bx.offZ hoth
      have honel : ∀ u ∈ (refC m6 (rwriteD r o.pos (fillL o.byte))).toList, u.oneCell' = true := fun u hu => by have := refC_one HX9.out.pb.rk; rw [Array.all_eq_true_iff_forall_mem] at this; exact this u (by simpa using hu)
      refine wpAnyH_ready (rs := [11]) (by kernel_rfl) (by simp) ?_
      refine rStoreS 11 48 (.tmp 6) (.tmp 98) none (cs := (refC m6 (rwriteD r o.pos (fillL o.byte))).toList) (by kernel_rfl) (by kernel_rfl) (by exact rfl) (by exact rfl) (there_all HX9.out.bz rfl) (hlen _ _) honel hS9 ?_ AllReadyH.nil
      simp only [Act.put, List.setIfInBounds_toArray, List.set_cons_zero, List.set_cons_succ]
      refine wpAnyH_ready (rs := [12]) (by kernel_rfl) (by simp) ?_
      refine rStep 12 (Op.assign (Operand.tmp 108)) (some 7) (.bool (codeA (writeA d o.pos) == rwriteA r o.pos)) (w9.setCells (w.heap.size + 2) 0 (refC m6 (rwriteD r o.pos (fillL o.byte))).toList) (by kernel_rfl) (by kernel_rfl) (fun o ho => by unfold execOp; simp only [ho]; go_simp) hS9 ?_ AllReadyH.nil
      simp only [Act.put, List.setIfInBounds_toArray, List.set_cons_zero, List.set_cons_succ]
      refine wpAnyH_done (by kernel_rfl) ?_ _
      have HBZ : Hid (Blk (w9.setCells (w.heap.size + 2) 0 (refC m6 (rwriteD r o.pos (fillL o.byte))).toList) (w.heap.size + 2) 48 (refC m6 (rwriteD r o.pos (fillL o.byte)))) := Lib.hid (Blk.setAll _ HX9.out.bz rfl)
      have HFIN := Lib.hid (HX9.out.fin (wz := (w9.setCells (w.heap.size + 2) 0 (refC m6 (rwriteD r o.pos (fillL o.byte))).toList)) (setCells_below (Nat.le_refl _) _ _ _).1 hoth)
      obtain ⟨wz, hwz⟩ : ∃ wz, wz = (w9.setCells (w.heap.size + 2) 0 (refC m6 (rwriteD r o.pos (fillL o.byte))).toList) := ⟨_, rfl⟩
      rw [← hwz] at HBZ HFIN ⊢
      clear hwz hS9 hoth honel HX9
      go_wp2_with fail
      have hr7 := HBZ.out.range
      exact bodyPost_ret (results_cell1 rfl _ rfl hr7 Try.underlying48 rfl (hlen _ _)) rfl ⟨m9, m6, .slice none 0 0, (codeA (writeA d o.pos) == rwriteA r o.pos), by rw [HV.out.2]; rfl, by rw [HV.out.1, HV.out.2]; exact HFIN.out.1, HFIN.out.2.1, by rw [HV.out.2]; exact HFIN.out.2.2⟩
    · refine (ref_fill15 o.byte wS hby).mono ?_
      rintro e w5 ⟨rfl, hb5⟩
      have HX5 := Lib.hid (HXS.out.keep hb5)
      clear hb5
      refine ⟨_, rfl, HX5.out.bo, fun hHeld => ?_⟩
      simp only [Act.put, List.setIfInBounds_toArray, List.set_cons_zero, List.set_cons_succ]
      refine wpAnyH_ready (rs := [0]) (by kernel_rfl) (by simp) ?_
      refine rLoadS 0 48 (.tmp 4) (some 89) (cs := (refC mr r).toList) (by kernel_rfl) (by kernel_rfl) (by exact rfl) HX5.out.bd.range Try.underlying48 rfl (hlen _ _) HX5.out.bo ?_ AllReadyH.nil
      simp only [Act.put, List.setIfInBounds_toArray, List.set_cons_zero, List.set_cons_succ]
      refine wpAnyH_ready (rs := [6]) (by kernel_rfl) (by simp) ?_
      refine rCall 6 (Op.call { callee := Callee.value (Operand.func 32), args := #[Operand.tmp 89, Operand.tmp 91, Operand.tmp 94], argTypes := #[48, 3, 80] }) (some 95) 32 #[.agg (refC mr r), .int .i64 o.pos, .agg (u8s (fillL o.byte)).toArray] (by kernel_rfl) (by kernel_rfl) (fun o ho => by unfold execOp; simp only [ho]; go_simp) ?_ AllReadyH.nil
      refine (HWR.out _ HX5.out).mono ?_
      rintro e w6 ⟨m6, rfl, hk6, hb6, hs6⟩
      have HX6 := Lib.hid (HX5.out.ref hb6 hk6 hs6)
      clear hk6 hb6 hs6
      refine ⟨_, rfl, HX6.out.bo, fun hHeld => ?_⟩
      simp only [Act.put, List.setIfInBounds_toArray, List.set_cons_zero, List.set_cons_succ]
      refine hTake 7 (Op.move (Operand.tmp 95)) (some 88) (.tuple #[.agg (refC m6 (rwriteD r o.pos (fillL o.byte))), .int .i64 (rwriteA r o.pos)]) (by kernel_rfl) (by kernel_rfl) (by kernel_rfl) (by kernel_rfl) (by kernel_rfl) (fun _ _ _ h => h) (fun o ho wX hX => by unfold execOp; simp only [ho]; go_simp) hHeld ?_
      simp only [Act.put, List.setIfInBounds_toArray, List.set_cons_zero, List.set_cons_succ]
      refine hTake 8 (Op.extract (Operand.tmp 88) 0) (some 96) (.agg (refC m6 (rwriteD r o.pos (fillL o.byte)))) (by kernel_rfl) (by kernel_rfl) (by kernel_rfl) (by kernel_rfl) (by kernel_rfl) (fun _ _ _ h => h) (fun o ho wX hX => by unfold execOp; simp only [ho]; go_simp) hHeld ?_
      simp only [Act.put, List.setIfInBounds_toArray, List.set_cons_zero, List.set_cons_succ]
      refine hTake 9 (Op.extract (Operand.tmp 88) 1) (some 97) (.int .i64 (rwriteA r o.pos)) (by kernel_rfl) (by kernel_rfl) (by kernel_rfl) (by kernel_rfl) (by kernel_rfl) (fun _ _ _ h => h) (fun o ho wX hX => by unfold execOp; simp only [ho]; go_simp) hHeld ?_
      simp only [Act.put, List.setIfInBounds_toArray, List.set_cons_zero, List.set_cons_succ]
      have hoth : ∀ k, k ≠ w.heap.size → (w6.setCells w.heap.size 0 (refC m6 (rwriteD r o.pos (fillL o.byte))).toList).heap[k]? = w6.heap[k]? := fun k hk => setCells_other hk _ _ _
      have HX7 : Hid (PX w0 w (w6.setCells w.heap.size 0 (refC m6 (rwriteD r o.pos (fillL o.byte))).toList) m m d mr r m6 (rwriteD r o.pos (fillL o.byte)) m6 (rwriteD r o.pos (fillL o.byte)) o F) := Lib.hid (HX6.out.box (Blk.setAll _ HX6.out.bd rfl) (setCells_below (Nat.le_refl _) _ _ _).1 hoth)
      have honel : ∀ u ∈ (refC m6 (rwriteD r o.pos (fillL o.byte))).toList, u.oneCell' = true := fun u hu => by have := refC_one HX6.out.pb.rk; rw [Array.all_eq_true_iff_forall_mem] at this; exact this u (by simpa using hu)
      refine wpAnyH_ready (rs := [10]) (by kernel_rfl) (by simp) ?_
      refine rStoreS 10 48 (.tmp 4) (.tmp 96) none (cs := (refC m6 (rwriteD r o.pos (fillL o.byte))).toList) (by kernel_rfl) (by kernel_rfl) (by exact rfl) (by exact rfl) (there_all HX6.out.bd rfl) (hlen _ _) honel HX7.out.bo ?_ AllReadyH.nil
      simp only [Act.put, List.setIfInBounds_toArray, List.set_cons_zero, List.set_cons_succ]
      refine wpAnyH_ready (rs := [11]) (by kernel_rfl) (by simp) ?_
      refine rStep 11 (Op.assign (Operand.tmp 97)) (some 10) (.int .i64 (rwriteA r o.pos)) (w6.setCells w.heap.size 0 (refC m6 (rwriteD r o.pos (fillL o.byte))).toList) (by kernel_rfl) (by kernel_rfl) (fun o ho => by unfold execOp; simp only [ho]; go_simp) HX7.out.bo ?_ AllReadyH.nil
      simp only [Act.put, List.setIfInBounds_toArray, List.set_cons_zero, List.set_cons_succ]
      refine wpAnyH_done (by kernel_rfl) ?_ _
      clear hHeld
      obtain ⟨w7, hw7⟩ : ∃ w7, w7 = (w6.setCells w.heap.size 0 (refC m6 (rwriteD r o.pos (fillL o.byte))).toList) := ⟨_, rfl⟩
      rw [← hw7] at HX7 ⊢
      clear hw7 hoth honel HX6 HX5
      go_upto_region 18 with fail
      clear HXS
      obtain ⟨wS, hwS⟩ : ∃ wS, wS = w7.drew := ⟨_, rfl⟩
      have HXS := Lib.hid (HX7.out.keep (wy := wS) (by rw [hwS]; exact (Below.refl _ _).drew))
      have HCD : Hid (isI64 (codeA (writeA d o.pos))) := Lib.hid (writeA_code _ _)
      refine held_start 13 (fun w' => BX w w' m6 (rwriteD r o.pos (fillL o.byte)) o F) (by kernel_rfl) (by kernel_rfl) (by rw [← hwS]; exact HXS.out.bx) (fun hHeld => ?_)
      rw [← hwS] at hHeld ⊢
      clear hwS
      refine hLoad 0 48 (Operand.tmp 4) (some 98) (cs := (refC m6 (rwriteD r o.pos (fillL o.byte))).toList) (by kernel_rfl) (by kernel_rfl) (by kernel_rfl) (by kernel_rfl) (by kernel_rfl) (fun _ _ _ h => h) (by exact rfl) (fun _ hX => hX.1.range) Try.underlying48 rfl (hlen _ _) hHeld ?_
      simp only [Act.put, List.setIfInBounds_toArray, List.set_cons_zero, List.set_cons_succ]
      refine hMove 1 (Operand.tmp 0) (some 99) (.pointer (some ⟨m.g, 0, none⟩)) (by kernel_rfl) (by kernel_rfl) (by kernel_rfl) (by kernel_rfl) (by kernel_rfl) (fun _ _ _ h => h) (by exact rfl) hHeld ?_
      simp only [Act.put, List.setIfInBounds_toArray, List.set_cons_zero, List.set_cons_succ]
      refine hTake 2 (Op.fieldAddr 67 (Operand.tmp 5) 1) (some 100) (.pointer (some ⟨w.heap.size + 1, 1, none⟩)) (by kernel_rfl) (by kernel_rfl) (by kernel_rfl) (by kernel_rfl) (by kernel_rfl) (fun _ _ _ h => h) (fun o ho wX hX => by unfold execOp; simp only [ho]; go_simp) hHeld ?_
      simp only [Act.put, List.setIfInBounds_toArray, List.set_cons_zero, List.set_cons_succ]
      refine hTake 3 (Op.load 3 (Operand.tmp 100)) (some 101) (.int .i64 o.pos) (by kernel_rfl) (by kernel_rfl) (by kernel_rfl) (by kernel_rfl) (by kernel_rfl) (fun _ _ _ h => h) (fun o ho wX hX => by have hcell := (op_cells HE.out hX.op).2.1; unfold execOp; simp only [ho]; go_simp) hHeld ?_
      simp only [Act.put, List.setIfInBounds_toArray, List.set_cons_zero, List.set_cons_succ]
      refine hTake 4 (Op.fieldAddr 67 (Operand.tmp 5) 6) (some 102) (.pointer (some ⟨w.heap.size + 1, 38, none⟩)) (by kernel_rfl) (by kernel_rfl) (by kernel_rfl) (by kernel_rfl) (by kernel_rfl) (fun _ _ _ h => h) (fun o ho wX hX => by unfold execOp; simp only [ho]; go_simp) hHeld ?_
      simp only [Act.put, List.setIfInBounds_toArray, List.set_cons_zero, List.set_cons_succ]
      refine hTake 5 (Op.load 5 (Operand.tmp 102)) (some 103) (.int .u8 o.byte) (by kernel_rfl) (by kernel_rfl) (by kernel_rfl) (by kernel_rfl) (by kernel_rfl) (fun _ _ _ h => h) (fun o ho wX hX => by have hcell := (op_cells HE.out hX.op).2.2.2.2.2.2.1; unfold execOp; simp only [ho]; go_simp) hHeld ?_
      simp only [Act.put, List.setIfInBounds_toArray, List.set_cons_zero, List.set_cons_succ]
      refine hMove 9 (Operand.tmp 10) (some 107) (.int .i64 (rwriteA r o.pos)) (by kernel_rfl) (by kernel_rfl) (by kernel_rfl) (by kernel_rfl) (by kernel_rfl) (fun _ _ _ h => h) (by exact rfl) hHeld ?_
      simp only [Act.put, List.setIfInBounds_toArray, List.set_cons_zero, List.set_cons_succ]
      refine wpAnyH_ready (rs := [6]) (by kernel_rfl) (by simp) ?_
      refine rCall 6 (Op.call { callee := Callee.value (Operand.func 43), args := #[Operand.tmp 103], argTypes := #[5] }) (some 104) 43 (#[.int .u8 o.byte]) (by kernel_rfl) (by kernel_rfl) (fun o ho => by unfold execOp; simp only [ho]; go_simp) ?_ AllReadyH.nil
      refine (ref_fill15 o.byte wS hby).mono ?_
      rintro e w7 ⟨rfl, hb7⟩
      have HX7 := Lib.hid (HXS.out.keep hb7)
      clear hb7
      refine ⟨_, rfl, HX7.out.bx, fun hHeld => ?_⟩
      simp only [Act.put, List.setIfInBounds_toArray, List.set_cons_zero, List.set_cons_succ]
      refine wpAnyH_ready (rs := [7]) (by kernel_rfl) (by simp) ?_
      refine rCall 7 (Op.call { callee := Callee.value (Operand.func 29), args := #[Operand.tmp 99, Operand.tmp 101, Operand.tmp 104], argTypes := #[34, 3, 80] }) (some 105) 29 (#[.pointer (some ⟨m.g, 0, none⟩), .int .i64 o.pos, .agg (u8s (fillL o.byte)).toArray]) (by kernel_rfl) (by kernel_rfl) (fun o ho => by unfold execOp; simp only [ho]; go_simp) ?_ AllReadyH.nil
      have HDW := Lib.hid (disk_write o.pos (fillL o.byte) w7 m d HX7.out.pb.st.dk HP64.out (fillL_sec o.byte hby) (by omega))
      rw [writeE_val] at HDW
      refine HDW.out.mono ?_
      rintro e w8 ⟨rfl, m9, hk8, ht8⟩
      have HX8 := Lib.hid (HX7.out.disk hk8 ht8)
      clear hk8 ht8
      refine ⟨_, rfl, HX8.out.bx, fun hHeld => ?_⟩
      simp only [Act.put, List.setIfInBounds_toArray, List.set_cons_zero, List.set_cons_succ]
      refine wpAnyH_ready (rs := [8]) (by kernel_rfl) (by simp) ?_
      refine rCall 8 (Op.call { callee := Callee.value (Operand.func 13), args := #[Operand.tmp 105], argTypes := #[37] }) (some 106) 13 (#[valE (writeA d o.pos)]) (by kernel_rfl) (by kernel_rfl) (fun o ho => by unfold execOp; simp only [ho]; go_simp) ?_ AllReadyH.nil
      refine (code18 (writeA d o.pos) w8 HCD.out).mono ?_
      rintro e w9 ⟨rfl, hb9⟩
      have HX9 := Lib.hid (HX8.out.keep hb9)
      clear hb9
      refine ⟨_, rfl, HX9.out.bx, fun hHeld => ?_⟩
      simp only [Act.put, List.setIfInBounds_toArray, List.set_cons_zero, List.set_cons_succ]
      refine hTake 10 (Op.binOp BinOp.eql 3 (Operand.tmp 106) (Operand.tmp 107) 3) (some 108) (.bool (codeA (writeA d o.pos) == rwriteA r o.pos)) (by kernel_rfl) (by kernel_rfl) (by kernel_rfl) (by kernel_rfl) (by kernel_rfl) (fun _ _ _ h => h) (fun o ho wX hX => by unfold execOp; simp only [ho]; go_simp) hHeld ?_
      simp only [Act.put, List.setIfInBounds_toArray, List.set_cons_zero, List.set_cons_succ]
      have hoth : ∀ k, k ≠ w.heap.size + 2 → (w9.setCells (w.heap.size + 2) 0 (refC m6 (rwriteD r o.pos (fillL o.byte))).toList).heap[k]? = w9.heap[k]? := fun k hk => setCells_other hk _ _ _
      have hS9 : BX w (w9.setCells (w.heap.size + 2) 0 (refC m6 (rwriteD r o.pos (fillL o.byte))).toList) m6 (rwriteD r o.pos (fillL o.byte)) o F := HX9.out.bx.offZ hoth
      have honel : ∀ u ∈ (refC m6 (rwriteD r o.pos (fillL o.byte))).toList, u.oneCell' = true := fun u hu => by have := refC_one HX9.out.pb.rk; rw [Array.all_eq_true_iff_forall_mem] at this; exact this u (by simpa using hu)
      refine wpAnyH_ready (rs := [11]) (by kernel_rfl) (by simp) ?_
      refine rStoreS 11 48 (.tmp 6) (.tmp 98) none (cs := (refC m6 (rwriteD r o.pos (fillL o.byte))).toList) (by kernel_rfl) (by kernel_rfl) (by exact rfl) (by exact rfl) (there_all HX9.out.bz rfl) (hlen _ _) honel hS9 ?_ AllReadyH.nil
      simp only [Act.put, List.setIfInBounds_toArray, List.set_cons_zero, List.set_cons_succ]
      refine wpAnyH_ready (rs := [12]) (by kernel_rfl) (by simp) ?_
      refine rStep 12 (Op.assign (Operand.tmp 108)) (some 7) (.bool (codeA (writeA d o.pos) == rwriteA r o.pos)) (w9.setCells (w.heap.size + 2) 0 (refC m6 (rwriteD r o.pos (fillL o.byte))).toList) (by kernel_rfl) (by kernel_rfl) (fun o ho => by unfold execOp; simp only [ho]; go_simp) hS9 ?_ AllReadyH.nil
      simp only [Act.put, List.setIfInBounds_toArray, List.set_cons_zero, List.set_cons_succ]
      refine wpAnyH_done (by kernel_rfl) ?_ _
      have HBZ : Hid (Blk (w9.setCells (w.heap.size + 2) 0 (refC m6 (rwriteD r o.pos (fillL o.byte))).toList) (w.heap.size + 2) 48 (refC m6 (rwriteD r o.pos (fillL o.byte)))) := Lib.hid (Blk.setAll _ HX9.out.bz rfl)
      have HFIN := Lib.hid (HX9.out.fin (wz := (w9.setCells (w.heap.size + 2) 0 (refC m6 (rwriteD r o.pos (fillL o.byte))).toList)) (setCells_below (Nat.le_refl _) _ _ _).1 hoth)
      obtain ⟨wz, hwz⟩ : ∃ wz, wz = (w9.setCells (w.heap.size + 2) 0 (refC m6 (rwriteD r o.pos (fillL o.byte))).toList) := ⟨_, rfl⟩
      rw [← hwz] at HBZ HFIN ⊢
      clear hwz hS9 hoth honel HX9
      go_wp2_with fail
      have hr7 := HBZ.out.range
      exact bodyPost_ret (results_cell1 rfl _ rfl hr7 Try.underlying48 rfl (hlen _ _)) rfl ⟨m9, m6, .slice none 0 0, (codeA (writeA d o.pos) == rwriteA r o.pos), by rw [HV.out.2]; rfl, by rw [HV.out.1, HV.out.2]; exact HFIN.out.1, HFIN.out.2.1, by rw [HV.out.2]; exact HFIN.out.2.2⟩
  rcases Bool.eq_false_or_eq_true (o.kind == 4) with t4 | t4
  · have n0 : ¬ o.kind = 0 := by simpa using t0
    have n1 : ¬ o.kind = 1 := by simpa using t1
    have n2 : ¬ o.kind = 2 := by simpa using t2
    have n3 : ¬ o.kind = 3 := by simpa using t3
    have hk : o.kind = 4 := by simpa using t4
    have HV : Hid (playD d o = planF d o.pos ∧ ∀ v, playR r o v = rplanD r o.pos false [] v) := Lib.hid ⟨by unfold playD; rw [if_neg n0, if_neg n1, if_neg n2, if_neg n3, if_pos hk], fun v => by unfold playR; rw [if_neg n0, if_neg n1, if_neg n2, if_neg n3, if_pos hk]⟩
    have HP := Lib.hid (disk_fail o.pos w4 m d HX.out.pb.st.dk (by have := HR0.out; omega) (by omega))
    go_upto_region 21 with (go_at_call 44; refine HP.out.mono ?_; rintro e w5 ⟨rfl, m5, hk5, ht5⟩)
    have HX5 := Lib.hid (HX.out.disk hk5 ht5)
    clear HX hk5 ht5 HP hrD c0 c1 c3 cE cm cb cc
    obtain ⟨c0, c1, c2, c3, cE, cm, cb, cc⟩ := op_cells HE.out HX5.out.bo
    rw [HEC.out] at cc
    have hrD := HX5.out.bd.range
    have HP := Lib.hid (ref_plan mr r o.pos false none 0 [] w5 HX5.out.pb.rk (by have := HR0.out; omega) HP64.out (Sn.nil _ _) (fun c hc => by cases hc) (by simp) (by omega))
    simp only [List.length_nil] at HP
    go_wp2_with (first
      | (refine ld 48 _ rfl rfl rfl hrD Try.underlying48 rfl (hlen _ _) ?_)
      | (go_at_call 45; refine HP.out.mono ?_; rintro e w6 ⟨m6, v6, rfl, hk6, hb6, hs6⟩; have HX6 := Lib.hid (HX5.out.ref hb6 hk6 hs6); clear hk6 hb6 hs6)
      | (refine stBlk (cells := refC m6 (rplanD r o.pos false [] v6)) 48 (.tmp 6) (.tmp 118) rfl rfl rfl rfl HX6.out.bz refI rfl (refC_one HX6.out.pb.rk) ?_; intro w7 hB7 hb7 ho7 hs7; have HBZ := Lib.hid hB7; have HFIN := Lib.hid (HX6.out.fin hb7 ho7); clear hB7 hb7 ho7 hs7))
    have hr7 := HBZ.out.range
    exact bodyPost_ret (results_cell1 rfl _ rfl hr7 Try.underlying48 rfl (hlen _ _)) rfl ⟨m5, m6, v6, true, by rw [HV.out.2]; rfl, by rw [HV.out.1, HV.out.2]; exact HFIN.out.1, HFIN.out.2.1, by rw [HV.out.2]; exact HFIN.out.2.2⟩
  rcases Bool.eq_false_or_eq_true (o.kind == 5) with t5 | t5
  · have n0 : ¬ o.kind = 0 := by simpa using t0
    have n1 : ¬ o.kind = 1 := by simpa using t1
    have n2 : ¬ o.kind = 2 := by simpa using t2
    have n3 : ¬ o.kind = 3 := by simpa using t3
    have n4 : ¬ o.kind = 4 := by simpa using t4
    have hk : o.kind = 5 := by simpa using t5
    have HV : Hid (playD d o = planC d o.pos o.cuts ∧ ∀ v, playR r o v = rplanD r o.pos true o.cuts v) := Lib.hid ⟨by unfold playD; rw [if_neg n0, if_neg n1, if_neg n2, if_neg n3, if_neg n4, if_pos hk], fun v => by unfold playR; rw [if_neg n0, if_neg n1, if_neg n2, if_neg n3, if_neg n4, if_pos hk]⟩
    have HP := Lib.hid (disk_crashAt o.pos (.slice Ac o.cuts.length nc) o.cuts w4 m d HX.out.pb.st.dk (HCU.out w4 HX.out.pb.st.bel) (by have := HR0.out; omega) (by have := HR0.out; omega) (by omega))
    go_upto_region 24 with (go_at_call 19; refine HP.out.mono ?_; rintro e w5 ⟨rfl, m5, hk5, ht5⟩)
    have HX5 := Lib.hid (HX.out.disk hk5 ht5)
    clear HX hk5 ht5 HP hrD c0 c1 c3 cE cm cb cc
    obtain ⟨c0, c1, c2, c3, cE, cm, cb, cc⟩ := op_cells HE.out HX5.out.bo
    rw [HEC.out] at cc
    have hrD := HX5.out.bd.range
    have HP := Lib.hid (ref_plan mr r o.pos true Ac nc o.cuts w5 HX5.out.pb.rk (by have := HR0.out; omega) HP64.out (HCU.out w5 HX5.out.pb.st.bel) HO.out.cok (by have := HR0.out; omega) (by omega))
    go_wp2_with (first
      | (refine ld 48 _ rfl rfl rfl hrD Try.underlying48 rfl (hlen _ _) ?_)
      | (go_at_call 45; refine HP.out.mono ?_; rintro e w6 ⟨m6, v6, rfl, hk6, hb6, hs6⟩; have HX6 := Lib.hid (HX5.out.ref hb6 hk6 hs6); clear hk6 hb6 hs6)
      | (refine stBlk (cells := refC m6 (rplanD r o.pos true o.cuts v6)) 48 (.tmp 6) (.tmp 132) rfl rfl rfl rfl HX6.out.bz refI rfl (refC_one HX6.out.pb.rk) ?_; intro w7 hB7 hb7 ho7 hs7; have HBZ := Lib.hid hB7; have HFIN := Lib.hid (HX6.out.fin hb7 ho7); clear hB7 hb7 ho7 hs7))
    have hr7 := HBZ.out.range
    exact bodyPost_ret (results_cell1 rfl _ rfl hr7 Try.underlying48 rfl (hlen _ _)) rfl ⟨m5, m6, v6, true, by rw [HV.out.2]; rfl, by rw [HV.out.1, HV.out.2]; exact HFIN.out.1, HFIN.out.2.1, by rw [HV.out.2]; exact HFIN.out.2.2⟩
  rcases Bool.eq_false_or_eq_true (o.kind == 6) with t6 | t6
  · have n0 : ¬ o.kind = 0 := by simpa using t0
    have n1 : ¬ o.kind = 1 := by simpa using t1
    have n2 : ¬ o.kind = 2 := by simpa using t2
    have n3 : ¬ o.kind = 3 := by simpa using t3
    have n4 : ¬ o.kind = 4 := by simpa using t4
    have n5 : ¬ o.kind = 5 := by simpa using t5
    have hk : o.kind = 6 := by simpa using t6
    have HV : Hid (playD d o = crashD d o.cuts ∧ ∀ v, playR r o v = rcrashD r o.cuts) := Lib.hid ⟨by unfold playD; rw [if_neg n0, if_neg n1, if_neg n2, if_neg n3, if_neg n4, if_neg n5, if_pos hk], fun v => by unfold playR; rw [if_neg n0, if_neg n1, if_neg n2, if_neg n3, if_neg n4, if_neg n5, if_pos hk]⟩
    have HP := Lib.hid (disk_crash o.cuts Ac nc w4 m d HX.out.pb.st.dk (HCU.out w4 HX.out.pb.st.bel) (by have := HR0.out; omega))
    go_upto_region 27 with (go_at_call 25; refine HP.out.mono ?_; rintro e w5 ⟨rfl, m5, hk5, ht5⟩)
    have HX5 := Lib.hid (HX.out.disk hk5 ht5)
    clear HX hk5 ht5 HP hrD c0 c1 c3 cE cm cb cc
    obtain ⟨c0, c1, c2, c3, cE, cm, cb, cc⟩ := op_cells HE.out HX5.out.bo
    rw [HEC.out] at cc
    have hrD := HX5.out.bd.range
    have HP := Lib.hid (ref_crash mr r (.slice Ac o.cuts.length nc) o.cuts w5 HX5.out.pb.rk (HCU.out w5 HX5.out.pb.st.bel) HO.out.cok (by have := HR0.out; omega))
    go_wp2_with (first
      | (refine ld 48 _ rfl rfl rfl hrD Try.underlying48 rfl (hlen _ _) ?_)
      | (go_at_call 46; refine HP.out.mono ?_; rintro e w6 ⟨m6, rfl, hk6, hb6, hs6⟩; have HX6 := Lib.hid (HX5.out.ref hb6 hk6 hs6); clear hk6 hb6 hs6)
      | (refine stBlk (cells := refC m6 (rcrashD r o.cuts)) 48 (.tmp 6) (.tmp 142) rfl rfl rfl rfl HX6.out.bz refI rfl (refC_one HX6.out.pb.rk) ?_; intro w7 hB7 hb7 ho7 hs7; have HBZ := Lib.hid hB7; have HFIN := Lib.hid (HX6.out.fin hb7 ho7); clear hB7 hb7 ho7 hs7))
    have hr7 := HBZ.out.range
    exact bodyPost_ret (results_cell1 rfl _ rfl hr7 Try.underlying48 rfl (hlen _ _)) rfl ⟨m5, m6, .slice none 0 0, true, by rw [HV.out.2]; rfl, by rw [HV.out.1, HV.out.2]; exact HFIN.out.1, HFIN.out.2.1, by rw [HV.out.2]; exact HFIN.out.2.2⟩
  have n0 : ¬ o.kind = 0 := by simpa using t0
  have n1 : ¬ o.kind = 1 := by simpa using t1
  have n2 : ¬ o.kind = 2 := by simpa using t2
  have n3 : ¬ o.kind = 3 := by simpa using t3
  have n4 : ¬ o.kind = 4 := by simpa using t4
  have n5 : ¬ o.kind = 5 := by simpa using t5
  have n6 : ¬ o.kind = 6 := by simpa using t6
  have HV : Hid (playD d o = startD d ∧ ∀ v, playR r o v = rstartD r) := Lib.hid ⟨by unfold playD; rw [if_neg n0, if_neg n1, if_neg n2, if_neg n3, if_neg n4, if_neg n5, if_neg n6], fun v => by unfold playR; rw [if_neg n0, if_neg n1, if_neg n2, if_neg n3, if_neg n4, if_neg n5, if_neg n6]⟩
  have HP := Lib.hid (disk_start w4 m d HX.out.pb.st.dk)
  go_upto_region 29 with (go_at_call 20; refine HP.out.mono ?_; rintro e w5 ⟨rfl, hk5, ht5⟩)
  have HX5 := Lib.hid (HX.out.disk hk5 ht5)
  clear HX hk5 ht5 HP hrD c0 c1 c3 cE cm cb cc
  have hc2 := HX5.out.bd.cell 2
  have hf2 := HX5.out.bd.frozen 2
  have hc2 : w5.cell? ⟨w.heap.size, 2, none⟩ = some (.bool r.down) := hc2
  obtain ⟨w6, hw6⟩ : ∃ w6, w6 = w5.setCell ⟨w.heap.size, 2, none⟩ (.bool false) := ⟨_, rfl⟩
  have hB6 : Blk w6 w.heap.size 48 (refC mr (rstartD r)) := by rw [hw6]; exact HX5.out.bd.set_ 2 _
  have hb6 : Below w.heap.size w5 w6 := by rw [hw6]; exact (Below.refl w.heap.size w5).setCell (p := ⟨w.heap.size, 2, none⟩) (Nat.le_refl _) _
  have ho6 : ∀ k, k ≠ w.heap.size → w6.heap[k]? = w5.heap[k]? := fun k hk => by rw [hw6]; exact Below.heap_setCell _ ⟨w.heap.size, 2, none⟩ _ k hk
  have HX6 : Hid (PX w0 w w6 m m (startD d) mr r mr (rstartD r) mr (rstartD r) o F) := Lib.hid (PX.box (mb := mr) (rb := r) (HX5.out.ref (Below.refl _ _) (RK.start HX5.out.pb.rk) (fun b hb => .inl hb)) hB6 hb6 ho6)
  go_upto_region 30 with fail
  rw [← hw6]
  clear hw6 hB6 hb6 ho6 HX5 hc2 hf2
  have hrD := HX6.out.bd.range
  go_wp2_with (first
    | (refine ld 48 _ rfl rfl rfl hrD Try.underlying48 rfl (hlen _ _) ?_)
    | (refine stBlk (cells := refC mr (rstartD r)) 48 (.tmp 6) (.tmp 146) rfl rfl rfl rfl HX6.out.bz refI rfl (refC_one HX6.out.pb.rk) ?_; intro w7 hB7 hb7 ho7 hs7; have HBZ := Lib.hid hB7; have HFIN := Lib.hid (HX6.out.fin hb7 ho7); clear hB7 hb7 ho7 hs7))
  have hr7 := HBZ.out.range
  exact bodyPost_ret (results_cell1 rfl _ rfl hr7 Try.underlying48 rfl (hlen _ _)) rfl ⟨m, mr, .slice none 0 0, true, by rw [HV.out.2]; rfl, by rw [HV.out.1, HV.out.2]; exact HFIN.out.1, HFIN.out.2.1, by rw [HV.out.2]; exact HFIN.out.2.2⟩
end Go.Proofs.Ytpkcddnclifcpaa
