/- Parts: tollref15.Crash. -/
import Derived.Test.YtpkcddnclifcpaaML15
import Derived.Test.YtpkcddnclifcpaaML7
import Derived.Test.YtpkcddnclifcpaaML8
namespace Go.Proofs.Ytpkcddnclifcpaa
open Go.RowKit
attribute [local irreducible] wpQuiet wpAnyH
set_option linter.unusedSimpArgs false

theorem tSec : SlT Try.prog 44 80 64 64 := SlT.mk' Try.underlying44 (z := .agg (u8s (List.replicate 64 0)).toArray) (by kernel_rfl) rfl (by decide)
def SBR (b o : Nat) (p : Int × List Int) (w : World) : Prop := w.rangeAt b o (wrC p)
set_option maxRecDepth 100000 in
set_option maxHeartbeats 4000000 in
theorem ref_crash15 (sec : List (List Int)) (opn : List (Int × List Int)) (cl : List Int) (As Ao Ac : Option Addr) (cs co cc : Nat) (w : World)
    (hs : Sn w 64 (.slice As sec.length cs) sec.length (sec.flatMap u8s)) (ho : Sn w 65 (.slice Ao opn.length co) opn.length (opn.flatMap wrC)) (hc : Sn w 1 (.slice Ac cl.length cc) cl.length (i64s cl)) (hci : ∀ c ∈ cl, isI64 c)
    (hsec : ∀ s ∈ sec, Sec s) (hopn : ∀ p ∈ opn, 0 ≤ p.1 ∧ p.1 < sec.length ∧ Sec p.2) (h1 : sec.length ≤ 4096) (h2 : opn.length ≤ 100000) (h3 : cl.length ≤ 1000000) :
    Calls Try.prog 62 #[.slice As sec.length cs, .slice Ao opn.length co, .slice Ac cl.length cc] w fun e w' => ∃ v, e = .returned v ∧ w'.ownsRow w.heap.size 80 64 v sec.length ((crashL sec opn cl).flatMap u8s) ∧ Below w.heap.size w w' := by
  obtain ⟨cut, hcut⟩ : ∃ cut : Nat → Int, cut = fun j => cl.getD j 0 := ⟨_, rfl⟩
  have HCU : Hid (∀ j (h : j < cl.length), cut j = cl[j]) := Lib.hid (fun j h => by rw [hcut]; simp [h])
  have HCN : Hid (∀ j, cl.length ≤ j → cut j = 0) := Lib.hid (fun j h => by rw [hcut]; simp [h])
  have HCI : Hid (∀ j, isI64 (cut j)) := Lib.hid (fun j => by
    rcases Nat.lt_or_ge j cl.length with h | h
    · rw [HCU.out j h]; exact hci _ (List.getElem_mem h)
    · rw [HCN.out j h]; exact ⟨by decide, by decide⟩)
  unfold crashL
  rw [← hcut]
  clear hcut hci
  have HO := Lib.hid ho
  have HC := Lib.hid hc
  have HS := Lib.hid hs
  have HSE := Lib.hid hsec
  have HOP := Lib.hid hopn
  have h64 : ∀ u ∈ sec.flatMap u8s, u.oneCell' = true := fun u hu => by
    obtain ⟨s, _, hu⟩ := List.mem_flatMap.1 hu
    exact u8s_mem s u hu
  have hown0 : (w.alloc (.cells #[] 80)).ownsRow w.heap.size 80 64 (.slice (some ⟨w.heap.size, 0, none⟩) 0 0) 0 [] := own_new w #[] 80 64 0 w.heap.size _ (Nat.le_refl _) rfl (by decide) rfl
  clear hs ho hc hsec hopn
  go_enter Try.func62, Try.ntmps62
  go_wp2_with (at_builtin; refine app tSec (.tmp 10) (.tmp 11) rfl rfl rfl hown0 rfl (HS.out.alloc _) h64 (by unfold maxLen; omega) (by omega) (by simp) ?_; intro v1 w1 hown hgrow _; rw [List.nil_append, Nat.zero_add] at hown; obtain ⟨Ar, cr, rfl, _, _⟩ := own_snD hown; have HO1 := Lib.hid hown; have HB1 : Hid (Below w.heap.size w w1) := Lib.hid ((bel1 w _).grown hgrow (by simp) (fun g hg => by cases hg; exact Nat.le_refl _)); clear hown hgrow)
  clear hown0
  go_loopw [8] (fun i wr => ∃ j : Nat, j ≤ opn.length ∧ i = .int .i64 (j : Int) ∧ Hid (wr.ownsRow w.heap.size 80 64 (.slice Ar sec.length cr) sec.length ((tornN cut sec opn j).flatMap u8s)) ∧ Hid (Below w.heap.size w wr)) (fun i _ => opn.length - (intOf i).toNat)
  case atStart => exact ⟨0, Nat.zero_le _, rfl, HO1, HB1⟩
  case round =>
    obtain ⟨j, hj, rfl, HR, HB⟩ := hrel
    have hszr := HB.out.size
    rcases Nat.lt_or_ge j opn.length with hlt | hge
    · obtain ⟨b1, o1, rfl, hr1⟩ := at_wr (HO.out.below HB.out) (fun p hp => (HOP.out p hp).2.2) j hlt
      have hblt : b1 < w.heap.size := HO.out.blk_lt (by omega) (by omega) b1 rfl
      have hp := HOP.out _ (List.getElem_mem hlt)
      have HTJ : Hid (tornN cut sec opn (j + 1) = (tornN cut sec opn j).set opn[j].1.toNat (tearL ((tornN cut sec opn j).getD opn[j].1.toNat []) opn[j].2 (cut j))) := Lib.hid (by
        show (tornN cut sec opn j).set (opn.getD j (0, [])).1.toNat _ = _
        rw [show opn.getD j (0, []) = opn[j] by simp [List.getD_eq_getElem?_getD, hlt]])
      have htl := tornN_len cut sec opn j
      have HTS := Lib.hid (tornN_sec cut sec opn HSE.out HOP.out j (by omega))
      have HCJI := Lib.hid (HCI.out j)
      have hcj : (∃ h : j < cl.length, cut j = cl[j]) ∨ (cl.length ≤ j ∧ cut j = 0) := by
        rcases Nat.lt_or_ge j cl.length with h | h
        · exact .inl ⟨h, HCU.out j h⟩
        · exact .inr ⟨h, HCN.out j h⟩
      have HCJ := Lib.hid hcj
      clear hcj
      obtain ⟨c, hc⟩ : ∃ c, c = cut j := ⟨_, rfl⟩
      obtain ⟨L, hL⟩ : ∃ L, L = tornN cut sec opn j := ⟨_, rfl⟩
      obtain ⟨⟨a, dat⟩, hpe⟩ : ∃ p, p = opn[j] := ⟨_, rfl⟩
      rw [← hpe] at hr1 hp HTJ
      rw [← hc] at HTJ HCJ HCJI
      rw [← hL] at HTJ HTS htl HR
      clear hpe hc hL
      obtain ⟨k, rfl⟩ := Int.eq_ofNat_of_zero_le hp.1
      have hkl : k < L.length := by have := hp.2.1; simp only at this; omega
      have hka : (k : Int) < (sec.length : Int) := hp.2.1
      have HDS : Hid (Sec dat) := Lib.hid hp.2.2
      have HTJ : Hid (tornN cut sec opn (j + 1) = L.set k (tearL (L.getD k []) dat c)) := HTJ
      clear hp
      have HBR : Hid (wr.rangeAt b1 (o1 + j * 65) (wrC ((k : Int), dat))) := Lib.hid hr1
      clear hr1
      have hj0 : (0 : Int) ≤ j := by omega
      have hj1 : (j : Int) < opn.length := by omega
      have hk0 : (0 : Int) ≤ k := by omega
      obtain ⟨gr, rfl⟩ : ∃ gr, Ar = some ⟨gr, 0, none⟩ := by
        rcases HR.out.2 with ⟨_, h⟩ | ⟨g, cp, cur, hv, _⟩
        · omega
        · injection hv with e1 _ _; exact ⟨g, e1⟩
      have HSL := Lib.hid htl
      have HR2' : Hid (wr.ownsRow w.heap.size 80 64 (.slice (some ⟨gr, 0, none⟩) L.length cr) L.length (L.flatMap u8s)) := Lib.hid (by have h := HR.out; rw [← show L.length = sec.length from htl] at h; exact h)
      have HOLD : Hid (L.getD k [] = L[k]) := Lib.hid (by simp [List.getD_eq_getElem?_getD, hkl])
      have HOS : Hid (Sec L[k]) := Lib.hid (HTS.out _ (List.getElem_mem hkl))
      have HROW : Hid (∀ w3, Below wr.heap.size wr w3 → w3.rangeAt gr (k * 64) (u8s L[k])) := Lib.hid (fun w3 hb => by
        obtain ⟨b, off, e, hr⟩ := at_sec (Sn.own HR2'.out) HTS.out k hkl
        injection e with e
        injection e with e1 e2
        rw [← e1, ← e2, Nat.zero_add] at hr
        exact fun j u hj => Below.cell' hb (hr j u hj))
      have HTE := Lib.hid (fun w3 => ref_tear L[k] dat c w3 HOS.out HDS.out HCJI.out)
      have HTSN : Hid (Sec (tearL L[k] dat c)) := Lib.hid (tearL_sec c HOS.out HDS.out)
      have HUD : Hid ((Try.prog.info? 80).map (·.size) = some (u8s dat).length) := Lib.hid (by rw [sec_length HDS.out]; kernel_rfl)
      have HUO : Hid ((Try.prog.info? 80).map (·.size) = some (u8s L[k]).length) := Lib.hid (by rw [sec_length HOS.out]; kernel_rfl)
      have HUT : Hid ((Try.prog.info? 80).map (·.size) = some (u8s (tearL L[k] dat c)).length) := Lib.hid (by rw [sec_length HTSN.out]; kernel_rfl)
      have HFIN : Hid (∀ w4, Below wr.heap.size wr w4 → w4.there gr (k * 64) (u8s (tearL L[k] dat c)).length ∧ (w4.setCells gr (k * 64) (u8s (tearL L[k] dat c))).ownsRow w.heap.size 80 64 (.slice (some ⟨gr, 0, none⟩) sec.length cr) sec.length ((tornN cut sec opn (j + 1)).flatMap u8s) ∧ Below w.heap.size w (w4.setCells gr (k * 64) (u8s (tearL L[k] dat c))) ∧ SBR b1 (o1 + j * 65) ((k : Int), dat) (w4.setCells gr (k * 64) (u8s (tearL L[k] dat c)))) := Lib.hid (fun w4 hb => by
        obtain ⟨q1, q2, q3⟩ := own_set u8s Sec 64 (fun r h => sec_length h) (own_below HR2'.out hb) HTS.out k hkl (tearL L[k] dat c) HTSN.out
        rw [List.length_set, ← HOLD.out, ← HTJ.out] at q1
        rw [show L.length = sec.length from HSL.out, HOLD.out] at q1
        refine ⟨q2, q1, (bstep HB.out hb).trans (setCells_below q3 _ _ _).1, ?_⟩
        have hne : gr ≠ b1 := fun e => by have := (HR.out.lt gr rfl).1; omega
        exact fun i u hi => (World.cell?_of_block (a := ⟨b1, (o1 + j * 65) + i, none⟩) (setCells_other (fun e => hne e.symm) _ _ _)).trans (Below.cell' hb (HBR.out i u hi)))
      have HIX : Hid (∀ w4, SBR b1 (o1 + j * 65) ((k : Int), dat) w4 → w4.cell? ⟨b1, o1 + j * 65, none⟩ = some (.int .i64 (k : Int)) ∧ w4.rangeAt b1 (o1 + j * 65 + 1) (u8s dat)) := Lib.hid (fun w4 h => ⟨h 0 _ rfl, fun i u hi => by have := h (i + 1) u hi; rw [show o1 + j * 65 + 1 + i = o1 + j * 65 + (i + 1) by omega]; exact this⟩)
      have HS0 : Hid (SBR b1 (o1 + j * 65) ((k : Int), dat) wr.drew) := Lib.hid HBR.out
      have HKEEP : Hid (∀ w4 w5, SBR b1 (o1 + j * 65) ((k : Int), dat) w4 → Below w4.heap.size w4 w5 → SBR b1 (o1 + j * 65) ((k : Int), dat) w5) := Lib.hid (fun w4 w5 h hb i u hi => Below.cell' hb (h i u hi))
      have HD2 : Hid (Below wr.heap.size wr wr.drew) := Lib.hid (Below.refl _ _).drew
      rcases HCJ.out with ⟨hjc, hcj⟩ | ⟨hjc, hcj⟩
      · obtain ⟨Ab, cb, hv, _, _, hx⟩ := HC.out.below HB.out
        injection hv with hv _ hv2
        obtain ⟨b3, o3, he, hcell⟩ := hx (by omega)
        subst hv hv2 he
        have hi := hcell j (.int .i64 c) (by rw [i64s, List.getElem?_map, List.getElem?_eq_getElem hjc, hcj]; rfl)
        have hjc1 : (j : Int) < cl.length := by omega
        clear hcell hx hcj HCJ
        go_upto_region 8 with fail
        refine held_start 23 (SBR b1 (o1 + j * 65) ((k : Int), dat)) (by kernel_rfl) (by kernel_rfl) (HS0.out) (fun hHeld => ?_)
        refine hMove 0 (Operand.tmp 7) (some 27) (.slice (some ⟨gr, 0, none⟩) sec.length cr) (by kernel_rfl) (by kernel_rfl) (by kernel_rfl) (by kernel_rfl) (by kernel_rfl) (fun _ _ _ h => h) (by exact rfl) hHeld ?_
        simp only [Act.put, List.setIfInBounds_toArray, List.set_cons_zero, List.set_cons_succ]
        refine hMove 1 (Operand.tmp 1) (some 28) (.slice (some ⟨b1, o1, none⟩) opn.length co) (by kernel_rfl) (by kernel_rfl) (by kernel_rfl) (by kernel_rfl) (by kernel_rfl) (fun _ _ _ h => h) (by exact rfl) hHeld ?_
        simp only [Act.put, List.setIfInBounds_toArray, List.set_cons_zero, List.set_cons_succ]
        refine hMove 2 (Operand.tmp 8) (some 29) (.int .i64 (j : Int)) (by kernel_rfl) (by kernel_rfl) (by kernel_rfl) (by kernel_rfl) (by kernel_rfl) (fun _ _ _ h => h) (by exact rfl) hHeld ?_
        simp only [Act.put, List.setIfInBounds_toArray, List.set_cons_zero, List.set_cons_succ]
        refine hTake 3 (Op.indexAddr 45 (Operand.tmp 28) (Operand.tmp 29)) (some 30) (.pointer (some ⟨b1, o1 + j * 65, none⟩)) (by kernel_rfl) (by kernel_rfl) (by kernel_rfl) (by kernel_rfl) (by kernel_rfl) (fun _ _ _ h => h) (fun o ho wX hX => by unfold execOp; simp only [ho]; go_simp) hHeld ?_
        simp only [Act.put, List.setIfInBounds_toArray, List.set_cons_zero, List.set_cons_succ]
        refine hTake 4 (Op.fieldAddr 126 (Operand.tmp 30) 0) (some 31) (.pointer (some ⟨b1, o1 + j * 65, none⟩)) (by kernel_rfl) (by kernel_rfl) (by kernel_rfl) (by kernel_rfl) (by kernel_rfl) (fun _ _ _ h => h) (fun o ho wX hX => by unfold execOp; simp only [ho]; go_simp) hHeld ?_
        simp only [Act.put, List.setIfInBounds_toArray, List.set_cons_zero, List.set_cons_succ]
        refine hTake 5 (Op.load 3 (Operand.tmp 31)) (some 32) (.int .i64 (k : Int)) (by kernel_rfl) (by kernel_rfl) (by kernel_rfl) (by kernel_rfl) (by kernel_rfl) (fun _ _ _ h => h) (fun o ho wX hX => by have hcell := (HIX.out wX hX).1; unfold execOp; simp only [ho]; go_simp) hHeld ?_
        simp only [Act.put, List.setIfInBounds_toArray, List.set_cons_zero, List.set_cons_succ]
        refine hMove 6 (Operand.tmp 7) (some 33) (.slice (some ⟨gr, 0, none⟩) sec.length cr) (by kernel_rfl) (by kernel_rfl) (by kernel_rfl) (by kernel_rfl) (by kernel_rfl) (fun _ _ _ h => h) (by exact rfl) hHeld ?_
        simp only [Act.put, List.setIfInBounds_toArray, List.set_cons_zero, List.set_cons_succ]
        refine hMove 7 (Operand.tmp 1) (some 34) (.slice (some ⟨b1, o1, none⟩) opn.length co) (by kernel_rfl) (by kernel_rfl) (by kernel_rfl) (by kernel_rfl) (by kernel_rfl) (fun _ _ _ h => h) (by exact rfl) hHeld ?_
        simp only [Act.put, List.setIfInBounds_toArray, List.set_cons_zero, List.set_cons_succ]
        refine hMove 8 (Operand.tmp 8) (some 35) (.int .i64 (j : Int)) (by kernel_rfl) (by kernel_rfl) (by kernel_rfl) (by kernel_rfl) (by kernel_rfl) (fun _ _ _ h => h) (by exact rfl) hHeld ?_
        simp only [Act.put, List.setIfInBounds_toArray, List.set_cons_zero, List.set_cons_succ]
        refine hTake 9 (Op.indexAddr 45 (Operand.tmp 34) (Operand.tmp 35)) (some 36) (.pointer (some ⟨b1, o1 + j * 65, none⟩)) (by kernel_rfl) (by kernel_rfl) (by kernel_rfl) (by kernel_rfl) (by kernel_rfl) (fun _ _ _ h => h) (fun o ho wX hX => by unfold execOp; simp only [ho]; go_simp) hHeld ?_
        simp only [Act.put, List.setIfInBounds_toArray, List.set_cons_zero, List.set_cons_succ]
        refine hTake 10 (Op.fieldAddr 126 (Operand.tmp 36) 0) (some 37) (.pointer (some ⟨b1, o1 + j * 65, none⟩)) (by kernel_rfl) (by kernel_rfl) (by kernel_rfl) (by kernel_rfl) (by kernel_rfl) (fun _ _ _ h => h) (fun o ho wX hX => by unfold execOp; simp only [ho]; go_simp) hHeld ?_
        simp only [Act.put, List.setIfInBounds_toArray, List.set_cons_zero, List.set_cons_succ]
        refine hTake 11 (Op.load 3 (Operand.tmp 37)) (some 38) (.int .i64 (k : Int)) (by kernel_rfl) (by kernel_rfl) (by kernel_rfl) (by kernel_rfl) (by kernel_rfl) (fun _ _ _ h => h) (fun o ho wX hX => by have hcell := (HIX.out wX hX).1; unfold execOp; simp only [ho]; go_simp) hHeld ?_
        simp only [Act.put, List.setIfInBounds_toArray, List.set_cons_zero, List.set_cons_succ]
        refine hTake 12 (Op.indexAddr 44 (Operand.tmp 33) (Operand.tmp 38)) (some 39) (.pointer (some ⟨gr, k * 64, none⟩)) (by kernel_rfl) (by kernel_rfl) (by kernel_rfl) (by kernel_rfl) (by kernel_rfl) (fun _ _ _ h => h) (fun o ho wX hX => by unfold execOp; simp only [ho]; go_simp) hHeld ?_
        simp only [Act.put, List.setIfInBounds_toArray, List.set_cons_zero, List.set_cons_succ]
        refine hMove 14 (Operand.tmp 1) (some 41) (.slice (some ⟨b1, o1, none⟩) opn.length co) (by kernel_rfl) (by kernel_rfl) (by kernel_rfl) (by kernel_rfl) (by kernel_rfl) (fun _ _ _ h => h) (by exact rfl) hHeld ?_
        simp only [Act.put, List.setIfInBounds_toArray, List.set_cons_zero, List.set_cons_succ]
        refine hMove 15 (Operand.tmp 8) (some 42) (.int .i64 (j : Int)) (by kernel_rfl) (by kernel_rfl) (by kernel_rfl) (by kernel_rfl) (by kernel_rfl) (fun _ _ _ h => h) (by exact rfl) hHeld ?_
        simp only [Act.put, List.setIfInBounds_toArray, List.set_cons_zero, List.set_cons_succ]
        refine hTake 16 (Op.indexAddr 45 (Operand.tmp 41) (Operand.tmp 42)) (some 43) (.pointer (some ⟨b1, o1 + j * 65, none⟩)) (by kernel_rfl) (by kernel_rfl) (by kernel_rfl) (by kernel_rfl) (by kernel_rfl) (fun _ _ _ h => h) (fun o ho wX hX => by unfold execOp; simp only [ho]; go_simp) hHeld ?_
        simp only [Act.put, List.setIfInBounds_toArray, List.set_cons_zero, List.set_cons_succ]
        refine hTake 17 (Op.fieldAddr 126 (Operand.tmp 43) 1) (some 44) (.pointer (some ⟨b1, o1 + j * 65 + 1, none⟩)) (by kernel_rfl) (by kernel_rfl) (by kernel_rfl) (by kernel_rfl) (by kernel_rfl) (fun _ _ _ h => h) (fun o ho wX hX => by unfold execOp; simp only [ho]; go_simp) hHeld ?_
        simp only [Act.put, List.setIfInBounds_toArray, List.set_cons_zero, List.set_cons_succ]
        refine hLoad 18 80 (Operand.tmp 44) (some 45) (cs := u8s dat) (by kernel_rfl) (by kernel_rfl) (by kernel_rfl) (by kernel_rfl) (by kernel_rfl) (fun _ _ _ h => h) (by exact rfl) (fun _ hX => (HIX.out _ hX).2) Try.underlying80 rfl HUD.out hHeld ?_
        simp only [Act.put, List.setIfInBounds_toArray, List.set_cons_zero, List.set_cons_succ]
        refine hMove 19 (Operand.tmp 9) (some 46) (.int .i64 c) (by kernel_rfl) (by kernel_rfl) (by kernel_rfl) (by kernel_rfl) (by kernel_rfl) (fun _ _ _ h => h) (by exact rfl) hHeld ?_
        simp only [Act.put, List.setIfInBounds_toArray, List.set_cons_zero, List.set_cons_succ]
        refine wpAnyH_ready (rs := [13]) (by kernel_rfl) (by simp) ?_
        refine rLoadS 13 80 (.tmp 39) (some 40) (cs := u8s L[k]) (by kernel_rfl) (by kernel_rfl) (by exact rfl) (HROW.out _ HD2.out) Try.underlying80 rfl HUO.out HS0.out ?_ AllReadyH.nil
        simp only [Act.put, List.setIfInBounds_toArray, List.set_cons_zero, List.set_cons_succ]
        refine wpAnyH_ready (rs := [20]) (by kernel_rfl) (by simp) ?_
        refine rCall 20 (Op.call { callee := Callee.value (Operand.func 84), args := #[Operand.tmp 40, Operand.tmp 45, Operand.tmp 46], argTypes := #[80, 80, 3] }) (some 47) 84 #[.agg (u8s L[k]).toArray, .agg (u8s dat).toArray, .int .i64 c] (by kernel_rfl) (by kernel_rfl) (fun o ho => by unfold execOp; simp only [ho]; go_simp) ?_ AllReadyH.nil
        refine (HTE.out _).mono ?_
        rintro e w4 ⟨rfl, hb4⟩
        obtain ⟨hth, hown, hbel, hs7⟩ := HFIN.out w4 (bstep HD2.out hb4)
        refine ⟨_, rfl, HKEEP.out _ _ HS0.out hb4, fun hH4 => ?_⟩
        simp only [Act.put, List.setIfInBounds_toArray, List.set_cons_zero, List.set_cons_succ]
        refine hTake 21 (Op.indexAddr 44 (Operand.tmp 27) (Operand.tmp 32)) (some 48) (.pointer (some ⟨gr, k * 64, none⟩)) (by kernel_rfl) (by kernel_rfl) (by kernel_rfl) (by kernel_rfl) (by kernel_rfl) (fun _ _ _ h => h) (fun o ho wX hX => by unfold execOp; simp only [ho]; go_simp) hH4 ?_
        simp only [Act.put, List.setIfInBounds_toArray, List.set_cons_zero, List.set_cons_succ]
        refine wpAnyH_ready (rs := [22]) (by kernel_rfl) (by simp) ?_
        refine rStoreS 22 80 (.tmp 48) (.tmp 47) none (cs := u8s (tearL L[k] dat c)) (by kernel_rfl) (by kernel_rfl) (by exact rfl) (by exact rfl) hth HUT.out (u8s_mem _) hs7 ?_ AllReadyH.nil
        simp only [Act.put, List.setIfInBounds_toArray, List.set_cons_zero, List.set_cons_succ]
        refine wpAnyH_done (by kernel_rfl) ?_ _
        have HOWN := Lib.hid hown
        have HBEL := Lib.hid hbel
        clear hth hown hbel hs7 hH4
        go_wp2_with fail
        exact ⟨⟨j + 1, by omega, by go_num, HOWN, HBEL⟩, by simp [intOf]; omega⟩
      · have hjc1 : ¬ (j : Int) < cl.length := by omega
        subst hcj
        clear HCJ
        go_upto_region 8 with fail
        refine held_start 23 (SBR b1 (o1 + j * 65) ((k : Int), dat)) (by kernel_rfl) (by kernel_rfl) (HS0.out) (fun hHeld => ?_)
        refine hMove 0 (Operand.tmp 7) (some 27) (.slice (some ⟨gr, 0, none⟩) sec.length cr) (by kernel_rfl) (by kernel_rfl) (by kernel_rfl) (by kernel_rfl) (by kernel_rfl) (fun _ _ _ h => h) (by exact rfl) hHeld ?_
        simp only [Act.put, List.setIfInBounds_toArray, List.set_cons_zero, List.set_cons_succ]
        refine hMove 1 (Operand.tmp 1) (some 28) (.slice (some ⟨b1, o1, none⟩) opn.length co) (by kernel_rfl) (by kernel_rfl) (by kernel_rfl) (by kernel_rfl) (by kernel_rfl) (fun _ _ _ h => h) (by exact rfl) hHeld ?_
        simp only [Act.put, List.setIfInBounds_toArray, List.set_cons_zero, List.set_cons_succ]
        refine hMove 2 (Operand.tmp 8) (some 29) (.int .i64 (j : Int)) (by kernel_rfl) (by kernel_rfl) (by kernel_rfl) (by kernel_rfl) (by kernel_rfl) (fun _ _ _ h => h) (by exact rfl) hHeld ?_
        simp only [Act.put, List.setIfInBounds_toArray, List.set_cons_zero, List.set_cons_succ]
        refine hTake 3 (Op.indexAddr 45 (Operand.tmp 28) (Operand.tmp 29)) (some 30) (.pointer (some ⟨b1, o1 + j * 65, none⟩)) (by kernel_rfl) (by kernel_rfl) (by kernel_rfl) (by kernel_rfl) (by kernel_rfl) (fun _ _ _ h => h) (fun o ho wX hX => by unfold execOp; simp only [ho]; go_simp) hHeld ?_
        simp only [Act.put, List.setIfInBounds_toArray, List.set_cons_zero, List.set_cons_succ]
        refine hTake 4 (Op.fieldAddr 126 (Operand.tmp 30) 0) (some 31) (.pointer (some ⟨b1, o1 + j * 65, none⟩)) (by kernel_rfl) (by kernel_rfl) (by kernel_rfl) (by kernel_rfl) (by kernel_rfl) (fun _ _ _ h => h) (fun o ho wX hX => by unfold execOp; simp only [ho]; go_simp) hHeld ?_
        simp only [Act.put, List.setIfInBounds_toArray, List.set_cons_zero, List.set_cons_succ]
        refine hTake 5 (Op.load 3 (Operand.tmp 31)) (some 32) (.int .i64 (k : Int)) (by kernel_rfl) (by kernel_rfl) (by kernel_rfl) (by kernel_rfl) (by kernel_rfl) (fun _ _ _ h => h) (fun o ho wX hX => by have hcell := (HIX.out wX hX).1; unfold execOp; simp only [ho]; go_simp) hHeld ?_
        simp only [Act.put, List.setIfInBounds_toArray, List.set_cons_zero, List.set_cons_succ]
        refine hMove 6 (Operand.tmp 7) (some 33) (.slice (some ⟨gr, 0, none⟩) sec.length cr) (by kernel_rfl) (by kernel_rfl) (by kernel_rfl) (by kernel_rfl) (by kernel_rfl) (fun _ _ _ h => h) (by exact rfl) hHeld ?_
        simp only [Act.put, List.setIfInBounds_toArray, List.set_cons_zero, List.set_cons_succ]
        refine hMove 7 (Operand.tmp 1) (some 34) (.slice (some ⟨b1, o1, none⟩) opn.length co) (by kernel_rfl) (by kernel_rfl) (by kernel_rfl) (by kernel_rfl) (by kernel_rfl) (fun _ _ _ h => h) (by exact rfl) hHeld ?_
        simp only [Act.put, List.setIfInBounds_toArray, List.set_cons_zero, List.set_cons_succ]
        refine hMove 8 (Operand.tmp 8) (some 35) (.int .i64 (j : Int)) (by kernel_rfl) (by kernel_rfl) (by kernel_rfl) (by kernel_rfl) (by kernel_rfl) (fun _ _ _ h => h) (by exact rfl) hHeld ?_
        simp only [Act.put, List.setIfInBounds_toArray, List.set_cons_zero, List.set_cons_succ]
        refine hTake 9 (Op.indexAddr 45 (Operand.tmp 34) (Operand.tmp 35)) (some 36) (.pointer (some ⟨b1, o1 + j * 65, none⟩)) (by kernel_rfl) (by kernel_rfl) (by kernel_rfl) (by kernel_rfl) (by kernel_rfl) (fun _ _ _ h => h) (fun o ho wX hX => by unfold execOp; simp only [ho]; go_simp) hHeld ?_
        simp only [Act.put, List.setIfInBounds_toArray, List.set_cons_zero, List.set_cons_succ]
        refine hTake 10 (Op.fieldAddr 126 (Operand.tmp 36) 0) (some 37) (.pointer (some ⟨b1, o1 + j * 65, none⟩)) (by kernel_rfl) (by kernel_rfl) (by kernel_rfl) (by kernel_rfl) (by kernel_rfl) (fun _ _ _ h => h) (fun o ho wX hX => by unfold execOp; simp only [ho]; go_simp) hHeld ?_
        simp only [Act.put, List.setIfInBounds_toArray, List.set_cons_zero, List.set_cons_succ]
        refine hTake 11 (Op.load 3 (Operand.tmp 37)) (some 38) (.int .i64 (k : Int)) (by kernel_rfl) (by kernel_rfl) (by kernel_rfl) (by kernel_rfl) (by kernel_rfl) (fun _ _ _ h => h) (fun o ho wX hX => by have hcell := (HIX.out wX hX).1; unfold execOp; simp only [ho]; go_simp) hHeld ?_
        simp only [Act.put, List.setIfInBounds_toArray, List.set_cons_zero, List.set_cons_succ]
        refine hTake 12 (Op.indexAddr 44 (Operand.tmp 33) (Operand.tmp 38)) (some 39) (.pointer (some ⟨gr, k * 64, none⟩)) (by kernel_rfl) (by kernel_rfl) (by kernel_rfl) (by kernel_rfl) (by kernel_rfl) (fun _ _ _ h => h) (fun o ho wX hX => by unfold execOp; simp only [ho]; go_simp) hHeld ?_
        simp only [Act.put, List.setIfInBounds_toArray, List.set_cons_zero, List.set_cons_succ]
        refine hMove 14 (Operand.tmp 1) (some 41) (.slice (some ⟨b1, o1, none⟩) opn.length co) (by kernel_rfl) (by kernel_rfl) (by kernel_rfl) (by kernel_rfl) (by kernel_rfl) (fun _ _ _ h => h) (by exact rfl) hHeld ?_
        simp only [Act.put, List.setIfInBounds_toArray, List.set_cons_zero, List.set_cons_succ]
        refine hMove 15 (Operand.tmp 8) (some 42) (.int .i64 (j : Int)) (by kernel_rfl) (by kernel_rfl) (by kernel_rfl) (by kernel_rfl) (by kernel_rfl) (fun _ _ _ h => h) (by exact rfl) hHeld ?_
        simp only [Act.put, List.setIfInBounds_toArray, List.set_cons_zero, List.set_cons_succ]
        refine hTake 16 (Op.indexAddr 45 (Operand.tmp 41) (Operand.tmp 42)) (some 43) (.pointer (some ⟨b1, o1 + j * 65, none⟩)) (by kernel_rfl) (by kernel_rfl) (by kernel_rfl) (by kernel_rfl) (by kernel_rfl) (fun _ _ _ h => h) (fun o ho wX hX => by unfold execOp; simp only [ho]; go_simp) hHeld ?_
        simp only [Act.put, List.setIfInBounds_toArray, List.set_cons_zero, List.set_cons_succ]
        refine hTake 17 (Op.fieldAddr 126 (Operand.tmp 43) 1) (some 44) (.pointer (some ⟨b1, o1 + j * 65 + 1, none⟩)) (by kernel_rfl) (by kernel_rfl) (by kernel_rfl) (by kernel_rfl) (by kernel_rfl) (fun _ _ _ h => h) (fun o ho wX hX => by unfold execOp; simp only [ho]; go_simp) hHeld ?_
        simp only [Act.put, List.setIfInBounds_toArray, List.set_cons_zero, List.set_cons_succ]
        refine hLoad 18 80 (Operand.tmp 44) (some 45) (cs := u8s dat) (by kernel_rfl) (by kernel_rfl) (by kernel_rfl) (by kernel_rfl) (by kernel_rfl) (fun _ _ _ h => h) (by exact rfl) (fun _ hX => (HIX.out _ hX).2) Try.underlying80 rfl HUD.out hHeld ?_
        simp only [Act.put, List.setIfInBounds_toArray, List.set_cons_zero, List.set_cons_succ]
        refine hMove 19 (Operand.tmp 9) (some 46) (.int .i64 0) (by kernel_rfl) (by kernel_rfl) (by kernel_rfl) (by kernel_rfl) (by kernel_rfl) (fun _ _ _ h => h) (by exact rfl) hHeld ?_
        simp only [Act.put, List.setIfInBounds_toArray, List.set_cons_zero, List.set_cons_succ]
        refine wpAnyH_ready (rs := [13]) (by kernel_rfl) (by simp) ?_
        refine rLoadS 13 80 (.tmp 39) (some 40) (cs := u8s L[k]) (by kernel_rfl) (by kernel_rfl) (by exact rfl) (HROW.out _ HD2.out) Try.underlying80 rfl HUO.out HS0.out ?_ AllReadyH.nil
        simp only [Act.put, List.setIfInBounds_toArray, List.set_cons_zero, List.set_cons_succ]
        refine wpAnyH_ready (rs := [20]) (by kernel_rfl) (by simp) ?_
        refine rCall 20 (Op.call { callee := Callee.value (Operand.func 84), args := #[Operand.tmp 40, Operand.tmp 45, Operand.tmp 46], argTypes := #[80, 80, 3] }) (some 47) 84 #[.agg (u8s L[k]).toArray, .agg (u8s dat).toArray, .int .i64 0] (by kernel_rfl) (by kernel_rfl) (fun o ho => by unfold execOp; simp only [ho]; go_simp) ?_ AllReadyH.nil
        refine (HTE.out _).mono ?_
        rintro e w4 ⟨rfl, hb4⟩
        obtain ⟨hth, hown, hbel, hs7⟩ := HFIN.out w4 (bstep HD2.out hb4)
        refine ⟨_, rfl, HKEEP.out _ _ HS0.out hb4, fun hH4 => ?_⟩
        simp only [Act.put, List.setIfInBounds_toArray, List.set_cons_zero, List.set_cons_succ]
        refine hTake 21 (Op.indexAddr 44 (Operand.tmp 27) (Operand.tmp 32)) (some 48) (.pointer (some ⟨gr, k * 64, none⟩)) (by kernel_rfl) (by kernel_rfl) (by kernel_rfl) (by kernel_rfl) (by kernel_rfl) (fun _ _ _ h => h) (fun o ho wX hX => by unfold execOp; simp only [ho]; go_simp) hH4 ?_
        simp only [Act.put, List.setIfInBounds_toArray, List.set_cons_zero, List.set_cons_succ]
        refine wpAnyH_ready (rs := [22]) (by kernel_rfl) (by simp) ?_
        refine rStoreS 22 80 (.tmp 48) (.tmp 47) none (cs := u8s (tearL L[k] dat 0)) (by kernel_rfl) (by kernel_rfl) (by exact rfl) (by exact rfl) hth HUT.out (u8s_mem _) hs7 ?_ AllReadyH.nil
        simp only [Act.put, List.setIfInBounds_toArray, List.set_cons_zero, List.set_cons_succ]
        refine wpAnyH_done (by kernel_rfl) ?_ _
        have HOWN := Lib.hid hown
        have HBEL := Lib.hid hbel
        clear hth hown hbel hs7 hH4
        go_wp2_with fail
        exact ⟨⟨j + 1, by omega, by go_num, HOWN, HBEL⟩, by simp [intOf]; omega⟩
    · obtain rfl : j = opn.length := by omega
      have t1 : decide ((opn.length : Int) < (opn.length : Int)) = false := by simp
      go_wp2_with fail
      go_ret
      exact ⟨_, rfl, HR.out, HB.out⟩
end Go.Proofs.Ytpkcddnclifcpaa
