/- Parts: The law SlotLimits: its walk. -/
import Derived.Test.YtpkcddnclifcpaaML22
import Derived.Test.YtpkcddnclifcpaaML23
import Derived.Test.YtpkcddnclifcpaaML5
namespace Go.Proofs.Ytpkcddnclifcpaa
open Go.RowKit
attribute [local irreducible] wpQuiet wpAnyH
set_option linter.unusedSimpArgs false

/-- The disk, a slot and an entry beside it. -/
structure L18 (w3 wx : World) (m : DiskM) (d : DiskD) (gs : Nat) (z : Int) (ge : Nat) (q : Ent2) : Prop where
  st : St w3 wx m d
  sl : LB wx m gs 30 #[.int .i64 0, .int .i64 z]
  en : LB wx m ge 26 (entP q).toArray
theorem L18.keep {w3 wx wy : World} {m : DiskM} {d : DiskD} {gs : Nat} {z : Int} {ge : Nat} {q : Ent2} (h : L18 w3 wx m d gs z ge q) (hb : Below wx.heap.size wx wy) : L18 w3 wy m d gs z ge q := ⟨h.st.keep hb, h.sl.keep hb, h.en.keep hb⟩
theorem L18.next {w3 wx wy : World} {m m' : DiskM} {d d' : DiskD} {gs : Nat} {z : Int} {ge : Nat} {q : Ent2} (h : L18 w3 wx m d gs z ge q) (hk : DK wy m' d') (ht : DT wx m wy m') : L18 w3 wy m' d' gs z ge q := ⟨h.st.next hk ht, h.sl.next ht, h.en.next ht⟩
theorem eql_nil (t : TypeId) (u : Value) (w : World) : (binOp .eql 37 (.iface t u) .nilIface).run Try.prog w = .ok (.bool false) w := by kernel_rfl
set_option maxRecDepth 100000 in
set_option maxHeartbeats 8000000 in
theorem limits_any (n : Int) (c : Nat) (p : Int) (q : Ent2) (A : Option Addr) (cap : Nat) (E : List Ent2) (w : World) (hn : -32768 ≤ n ∧ n ≤ 32767) (hc : c ≤ 255) (hp : isI64 p) (hq : EntOk q) (hs : Sn w 33 (.slice A E.length cap) E.length (E.flatMap entP)) (hok : ∀ q ∈ E, EntOk q) :
    Calls Try.prog 3 #[.int .i16 n, .int .u8 c, .int .i64 p, .agg (entP q).toArray, .slice A E.length cap] w fun e w' => e = .returned (.bool true) ∧ Below w.heap.size w w' := by
  have HQ := Lib.hid hq
  have HOK := Lib.hid hok
  have n1 : -32768 ≤ n := hn.1
  have n2 : n ≤ 32767 := hn.2
  have p1 : -9223372036854775808 ≤ p := hp.1
  have p2 : p ≤ 9223372036854775807 := hp.2
  have la := entP_length q hq
  have HUQ : Hid ((Try.prog.info? 26).map (·.size) = some (entP q).length) := Lib.hid (by rw [la]; kernel_rfl)
  obtain ⟨w0, hw0⟩ : ∃ w0, w0 = w.alloc (.cells (entP q).toArray 26) := ⟨_, rfl⟩
  have HE0 : Hid (Blk w0 w.heap.size 26 (entP q).toArray) := Lib.hid (by rw [hw0]; exact Blk.new _ _ _)
  have HW0 : Hid (Below w.heap.size w w0) := Lib.hid (by rw [hw0]; exact bel1 _ _)
  have HS0 := Lib.hid (hs.below HW0.out)
  clear hq hok hn hp hs la
  rcases Bool.eq_false_or_eq_true (decide ((50 : Int) < E.length)) with t1 | t1
  · go_enter Try.func3, Try.ntmps3
    go_upto_region 1 with fail
    rw [← hw0]
    clear hw0
    go_wp2_with fail
    refine (awake18 w0).mono ?_
    rintro e w1 ⟨rfl, hb1⟩
    go_wp2_with fail
    refine (awake18 w1).mono ?_
    rintro e w2 ⟨rfl, hb2⟩
    go_wp2_with fail
    go_ret
    exact ⟨rfl, bstep HW0.out (bstep hb1 hb2)⟩
  · have hE50 : (E.length : Int) ≤ 50 := by have := of_decide_eq_false t1; omega
    go_enter Try.func3, Try.ntmps3
    go_upto_region 1 with fail
    rw [← hw0]
    clear hw0
    go_wp2_with fail
    refine (awake18 w0).mono ?_
    rintro e w1 ⟨rfl, hb1⟩
    have HE1 := Lib.hid (HE0.out.keep hb1)
    have HS1 := Lib.hid (HS0.out.below hb1)
    have HW1 := Lib.hid (bstep HW0.out hb1)
    clear hb1 HE0 HS0 HW0
    obtain ⟨N, hN⟩ : ∃ N : Nat, max n 0 = (N : Int) := ⟨(max n 0).toNat, by omega⟩
    have hNb : N ≤ 32767 := by omega
    obtain ⟨M, hM⟩ : ∃ M : Int, M = max (n - 1) 0 := ⟨_, rfl⟩
    have hM1 : max (n - 1) 0 = M := hM.symm
    have hRM : room n = M := by rw [hM]; unfold room; split <;> omega
    go_upto_region 3 with fail
    go_upto_region 4 with (go_at_call 8; refine (slot_halves N _ (by omega)).mono ?_; rintro e w2 ⟨rfl, hb2⟩)
    have HW2 : Hid (Below w.heap.size w ((w2.alloc (.cells #[.int .i64 0, .int .i64 ((N : Int) / 2)] 30)).alloc (.cells #[.int .i64 ((N : Int) / 2), .int .i64 ((N : Int) / 2)] 30))) := Lib.hid (bstep HW1.out (bstep hb2 (bstep (bel1 _ _) (bel1 _ _))))
    have HB2 : Hid (Below w1.heap.size w1 ((w2.alloc (.cells #[.int .i64 0, .int .i64 ((N : Int) / 2)] 30)).alloc (.cells #[.int .i64 ((N : Int) / 2), .int .i64 ((N : Int) / 2)] 30))) := Lib.hid (bstep hb2 (bstep (bel1 _ _) (bel1 _ _)))
    clear hb2
    go_wp2_with fail
    refine (slot_room 0 n _ ⟨by omega, by omega⟩).mono ?_
    rintro e w3 ⟨rfl, hb3⟩
    have HW3 := Lib.hid (bstep HW2.out hb3)
    have HE3 := Lib.hid ((HE1.out.keep HB2.out).keep hb3)
    have HS3 := Lib.hid ((HS1.out.below HB2.out).below hb3)
    clear hb3 HB2 HW2 HW1 HE1 HS1 hM
    rw [hRM]
    go_upto_region 7 with fail
    clear hN hM1 hRM
    go_wp2_with fail
    refine (disk_new 20 w3 (by omega) (by omega)).mono ?_
    rintro e w4 ⟨m4, rfl, hk4, hb4, hf4⟩
    have HST4 : Hid (St w3 w4 m4 (newD 20)) := Lib.hid ⟨hk4, hf4, hb4⟩
    have HE4 := Lib.hid (LB.old HST4.out HE3.out)
    have HSL : Hid (∀ W m d, St w3 W m d → Sn W 33 (.slice A E.length cap) E.length (E.flatMap entP)) := Lib.hid (fun W m d h => HS3.out.below h.bel)
    clear hk4 hb4 hf4
    obtain ⟨z, hz⟩ : ∃ z : Int, 1 + (c : Int) % 20 = z := ⟨_, rfl⟩
    have hzb : 1 ≤ z ∧ z ≤ 20 := by omega
    go_upto_region 11 with fail
    obtain ⟨gs, hgs⟩ : ∃ gs, gs = w4.heap.size := ⟨_, rfl⟩
    obtain ⟨ge, hge⟩ : ∃ ge, ge = w.heap.size := ⟨_, rfl⟩
    rw [← hgs, ← hge]
    obtain ⟨w5, hw5⟩ : ∃ w5, w5 = w4.alloc (.cells #[.int .i64 0, .int .i64 z] 30) := ⟨_, rfl⟩
    have hb5 : Below w4.heap.size w4 w5 := by rw [hw5]; exact bel1 _ _
    have H5 : Hid (L18 w3 w5 m4 (newD 20) gs z ge q) := Lib.hid ⟨HST4.out.keep hb5, LB.fresh HST4.out.dk (by rw [hgs]; exact Nat.le_refl _) (by rw [hw5]; exact Blk.newAt _ _ _ _ hgs.symm), by rw [hge]; exact HE4.out.keep hb5⟩
    rw [← hw5]
    clear hw5 hgs hge hb5 HST4 HE4 HE3
    have hr1 := H5.out.sl.blk.range
    have hr2 := H5.out.en.blk.range
    rw [List.toList_toArray] at hr1 hr2
    obtain ⟨pa, sec, st, r, v1, v2, hsec, hst, hr10, hst2, hcase⟩ := lim_put z p q hzb
    have HP := Lib.hid (slot_put 0 z p 3 q w5 m4 (newD 20) H5.out.st.dk (by omega) ⟨⟨by omega, by omega⟩, by omega⟩ ⟨p1, p2⟩ (by omega) HQ.out (by show 0 + 3 ≤ 100000; omega))
    rw [v1, v2] at HP
    obtain ⟨fa, d2, rr, f1, f2, f3⟩ := lim_fill sec st r z E hzb hsec hst
    have HF1 := Lib.hid f1
    have HF2 := Lib.hid f2
    have HF3 := Lib.hid f3
    have HCS := Lib.hid hcase
    have hrz : room z = z - 1 := by unfold room; rw [if_neg (by omega)]
    clear v1 v2 f1 f2 f3 hcase hsec hz
    go_upto_region 12 with (first
      | (refine ld 30 _ rfl rfl rfl hr1 Try.underlying30 rfl (by kernel_rfl) ?_)
      | (refine ld 26 _ rfl rfl rfl hr2 Try.underlying26 rfl HUQ.out ?_)
      | (go_at_call 11; refine HP.out.mono ?_; rintro e w6 ⟨rfl, m6, hk6, ht6⟩))
    have H6 := Lib.hid (H5.out.next hk6 ht6)
    have hg6 := ht6.g
    clear hk6 ht6 hr1 hr2 H5 HP
    go_upto_region 13 with fail
    obtain ⟨B, hB⟩ : ∃ B : Bool, B = (decide (p < 1) || decide (z - 1 < p)) := ⟨_, rfl⟩
    go_cut [93] from 86 to 93 (fun x wx => x = .bool B ∧ Hid (L18 w3 wx m6 (qD sec [] st r) gs z ge q))
    case first =>
      have hr1 := H6.out.sl.blk.range
      rw [List.toList_toArray] at hr1
      rcases Bool.eq_false_or_eq_true (decide (p < 1)) with t2 | t2
      · go_wp2_with fail
        go_meet
        exact ⟨by rw [hB, t2]; rfl, H6⟩
      · go_wp2_with (refine ld 30 _ rfl rfl rfl hr1 Try.underlying30 rfl (by kernel_rfl) ?_)
        refine (slot_room 0 z _ ⟨by omega, by omega⟩).mono ?_
        rintro e w7 ⟨rfl, hb7⟩
        rw [hrz]
        go_wp2_with fail
        go_meet
        exact ⟨by rw [hB, t2]; rfl, Lib.hid (H6.out.keep hb7)⟩
    case rest =>
    obtain ⟨rfl, H7⟩ := hcut
    clear H6
    go_upto_if 93 with fail
    have HBB := Lib.hid hB
    clear hB
    go_cut [17] from 94 to 96 (fun x wx => x = .int .i64 (codeA pa) ∧ Hid (L18 w3 wx m6 (qD sec [] st r) gs z ge q))
    case first =>
      have hr2 := H7.out.en.blk.range
      rw [List.toList_toArray] at hr2
      rcases HCS.out with ⟨rfl, _, hor⟩ | ⟨rfl, _, ha, hb, hrq⟩ | ⟨rfl, ha, hb, hrq⟩
      · have hB1 : B = true := by
          rw [HBB.out]
          rcases hor with h | h
          · rw [decide_eq_true h]; rfl
          · rw [decide_eq_true h]; simp
        subst hB1
        go_wp2_with fail
        go_meet
        exact ⟨rfl, H7⟩
      · have hB1 : B = false := by rw [HBB.out, decide_eq_false (show ¬ p < 1 by omega), decide_eq_false (show ¬ z - 1 < p by omega)]; rfl
        subst hB1
        go_wp2_with (refine ld 26 _ rfl rfl rfl hr2 Try.underlying26 rfl HUQ.out ?_)
        refine (ref_right q _ HQ.out).mono ?_
        rintro e w8 ⟨rfl, hb8⟩
        rw [hrq]
        go_wp2_with fail
        go_meet
        exact ⟨rfl, Lib.hid (H7.out.keep hb8)⟩
      · have hB1 : B = false := by rw [HBB.out, decide_eq_false (show ¬ p < 1 by omega), decide_eq_false (show ¬ z - 1 < p by omega)]; rfl
        subst hB1
        go_wp2_with (refine ld 26 _ rfl rfl rfl hr2 Try.underlying26 rfl HUQ.out ?_)
        refine (ref_right q _ HQ.out).mono ?_
        rintro e w8 ⟨rfl, hb8⟩
        rw [hrq]
        go_wp2_with fail
        go_meet
        exact ⟨rfl, Lib.hid (H7.out.keep hb8)⟩
    case rest =>
    obtain ⟨rfl, H8⟩ := hcut
    clear H7
    go_upto_region 17 with fail
    go_cut [116] from 97 to 116 (fun x wx => x = .bool false ∧ Hid (L18 w3 wx m6 (qD sec [] st r) gs z ge q))
    case first =>
      have HSTP := Lib.hid (fun wx (h : L18 w3 wx m6 (qD sec [] st r) gs z ge q) => disk_steps wx m6 (qD sec [] st r) h.st.dk)
      rw [hg6] at HSTP
      rcases HCS.out with ⟨rfl, hs0, hor⟩ | ⟨rfl, hs0, ha, hb, hrq⟩ | ⟨rfl, ha, hb, hrq⟩
      · have hnn := eql_nil 79 (.int .i64 13)
        simp only [valE, baseVal, codeA]
        subst hs0
        go_wp2_with fail
        refine (code18 (some (13, none)) _ ⟨by decide, by decide⟩).mono ?_
        rintro e w9 ⟨rfl, hb9⟩
        have H9 := Lib.hid (H8.out.keep hb9)
        clear hb9
        simp only [codeA]
        go_wp2_with fail
        refine (HSTP.out _ H9.out).mono ?_
        rintro e wS ⟨rfl, hwS⟩
        rw [hwS]
        clear hwS
        simp only [qD]
        go_wp2_with fail
        go_meet
        exact ⟨rfl, H9⟩
      · have hnn := eql_nil 79 (.int .i64 15)
        simp only [valE, baseVal, codeA]
        subst hs0
        go_wp2_with fail
        refine (code18 (some (15, none)) _ ⟨by decide, by decide⟩).mono ?_
        rintro e w9 ⟨rfl, hb9⟩
        have H9 := Lib.hid (H8.out.keep hb9)
        clear hb9
        simp only [codeA]
        go_wp2_with fail
        refine (HSTP.out _ H9.out).mono ?_
        rintro e wS ⟨rfl, hwS⟩
        rw [hwS]
        clear hwS
        simp only [qD]
        go_wp2_with fail
        go_meet
        exact ⟨rfl, H9⟩
      · simp only [valE, codeA]
        go_wp2_with fail
        refine (code18 none _ ⟨by decide, by decide⟩).mono ?_
        rintro e w9 ⟨rfl, hb9⟩
        have H9 := Lib.hid (H8.out.keep hb9)
        clear hb9
        simp only [codeA]
        go_wp2_with fail
        go_meet
        exact ⟨rfl, H9⟩
    case rest =>
    obtain ⟨rfl, H9⟩ := hcut
    clear H8
    obtain ⟨vp, hvp⟩ : ∃ v, v = valE pa := ⟨_, rfl⟩
    obtain ⟨cp, hcp⟩ : ∃ v, v = codeA pa := ⟨_, rfl⟩
    rw [← hvp, ← hcp]
    clear hvp hcp HCS
    go_upto_region 19 with fail
    have HP := Lib.hid (disk_steps wc m6 (qD sec [] st r) H9.out.st.dk)
    rw [hg6] at HP
    go_wp2_with fail
    refine HP.out.mono ?_
    rintro e wQ ⟨rfl, hwQ⟩
    rw [hwQ]
    clear hwQ HP
    have est : (qD sec [] st r).steps = st := rfl
    rw [est]
    clear est
    have hr1 := H9.out.sl.blk.range
    rw [List.toList_toArray] at hr1
    have HP := Lib.hid (slot_fill 0 z 3 E A cap wc m6 (qD sec [] st r) H9.out.st.dk (HSL.out _ _ _ H9.out.st) HOK.out (by omega) ⟨⟨by omega, by omega⟩, by omega⟩ (by omega) (by omega) (by show r + 10000 ≤ 100000; omega))
    rw [HF1.out, hg6] at HP
    simp only at HP
    go_upto_region 21 with (first
      | (refine ld 30 _ rfl rfl rfl hr1 Try.underlying30 rfl (by kernel_rfl) ?_)
      | (go_at_call 15; refine HP.out.mono ?_; rintro e w11 ⟨rfl, m11, hk11, ht11⟩))
    have H11 := Lib.hid (H9.out.next hk11 ht11)
    have hg11 := ht11.g.trans hg6
    clear hk11 ht11 hr1 H9 HP
    obtain ⟨wS, hwS⟩ : ∃ wS, wS = w11.drew := ⟨_, rfl⟩
    have HS := Lib.hid (H11.out.keep (show Below w11.heap.size w11 wS by rw [hwS]; exact (Below.refl _ _).drew))
    have hgs : gs < wS.heap.size := HS.out.sl.blk.lt
    have HCZ : Hid (∀ W : World, Below wS.heap.size wS W → W.cell? ⟨gs, 1, none⟩ = some (.int .i64 z)) := Lib.hid (fun W hb => by
      have := (HS.out.sl.blk.keep hb).cell 1
      exact this)
    have HNW := Lib.hid (fun W => ref_new 20 W (by omega))
    have HRF : Hid (∀ (W : World) (mr : RM), RK W mr (rnewD 20) → Below wS.heap.size wS W → Calls Try.prog 16 #[.agg (refC mr (rnewD 20)), .int .i64 0, .int .i64 z, .int .u32 3, .slice A E.length cap] W fun e w' => ∃ m', e = .returned (.tuple #[.agg (refC m' rr), .int .i64 (codeA fa)]) ∧ Below W.heap.size W w' ∧ (refC m' rr).all (·.oneCell') = true) := Lib.hid (fun W mr hk hb => by
      have h := ref_fill mr (rnewD 20) 0 z 3 E A cap W hk ((HSL.out _ _ _ HS.out.st).below hb) HOK.out (by omega) ⟨by omega, by omega⟩ (by omega) (by show (0 : Int) + 20000 ≤ 1000000000; omega) (by show 0 + 20000 ≤ 50000; omega)
      have e2 := HF2.out
      rw [show ((3 : Nat) : Int) = 3 from rfl, e2] at h
      refine h.mono ?_
      rintro e w' ⟨m', rfl, hk', hb', _⟩
      exact ⟨m', rfl, hb', refC_one hk'⟩)
    have hlen : ∀ m r, (Try.prog.info? 48).map (·.size) = some (refC m r).toList.length := fun _ _ => refI
    refine held_start 11 (fun w' => w'.cell? ⟨gs, 1, none⟩ = some (.int .i64 z)) (by kernel_rfl) (by kernel_rfl) (by rw [← hwS]; exact HCZ.out _ (Below.refl _ _)) (fun hHeld => ?_)
    rw [← hwS] at hHeld ⊢
    clear hwS
    refine hTake 1 (Op.fieldAddr 30 (Operand.tmp 15) 1) (some 125) (.pointer (some ⟨gs, 1, none⟩)) (by kernel_rfl) (by kernel_rfl) (by kernel_rfl) (by kernel_rfl) (by kernel_rfl) (fun _ _ _ h => h) (fun o ho wX hX => by unfold execOp; simp only [ho]; go_simp) hHeld ?_
    simp only [Act.put, List.setIfInBounds_toArray, List.set_cons_zero, List.set_cons_succ]
    refine hTake 2 (Op.load 3 (Operand.tmp 125)) (some 126) (.int .i64 z) (by kernel_rfl) (by kernel_rfl) (by kernel_rfl) (by kernel_rfl) (by kernel_rfl) (fun _ _ _ h => h) (fun o ho wX hX => by have hcell := hX; unfold execOp; simp only [ho]; go_simp) hHeld ?_
    simp only [Act.put, List.setIfInBounds_toArray, List.set_cons_zero, List.set_cons_succ]
    refine hMove 3 (Operand.tmp 4) (some 127) (.slice A E.length cap) (by kernel_rfl) (by kernel_rfl) (by kernel_rfl) (by kernel_rfl) (by kernel_rfl) (fun _ _ _ h => h) (by exact rfl) hHeld ?_
    simp only [Act.put, List.setIfInBounds_toArray, List.set_cons_zero, List.set_cons_succ]
    refine wpAnyH_ready (rs := [0, 8]) (by kernel_rfl) (by simp) ?_
    refine rCall 0 (Op.call { callee := Callee.value (Operand.func 17), args := #[Operand.const (Value.int IntKind.i64 20)], argTypes := #[3] }) (some 124) 17 #[.int .i64 20] (by kernel_rfl) (by kernel_rfl) (fun o ho => by unfold execOp; simp only [ho]; go_simp) ?_ (rAlloc 8 48 (some 20) refZ (by kernel_rfl) (by kernel_rfl) zeroRef (HCZ.out _ (bstep (Below.refl _ wS) (bel1 _ _))) ?_ AllReadyH.nil)
    · refine (HNW.out wS).mono ?_
      rintro e wk1 ⟨mr1, rfl, hkr1, hbr1, _⟩
      have hBk1 := bstep (Below.refl _ wS) hbr1
      refine ⟨_, rfl, HCZ.out _ hBk1, fun _ => ?_⟩
      simp only [Act.put, List.setIfInBounds_toArray, List.set_cons_zero, List.set_cons_succ]
      refine wpAnyH_ready (rs := [4, 8]) (by kernel_rfl) (by simp) ?_
      refine rCall 4 (Op.call { callee := Callee.value (Operand.func 16), args := #[Operand.tmp 124, Operand.const (Value.int IntKind.i64 0), Operand.tmp 126, Operand.const (Value.int IntKind.u32 3), Operand.tmp 127], argTypes := #[48, 3, 3, 39, 27] }) (some 128) 16 #[.agg (refC mr1 (rnewD 20)), .int .i64 0, .int .i64 z, .int .u32 3, .slice A E.length cap] (by kernel_rfl) (by kernel_rfl) (fun o ho => by unfold execOp; simp only [ho]; go_simp) ?_ (rAlloc 8 48 (some 20) refZ (by kernel_rfl) (by kernel_rfl) zeroRef (HCZ.out _ (bstep hBk1 (bel1 _ _))) ?_ AllReadyH.nil)
      · refine (HRF.out wk1 mr1 hkr1 hBk1).mono ?_
        rintro e wk2 ⟨mf, rfl, hbr2, hone⟩
        have hBk2 := bstep hBk1 hbr2
        refine ⟨_, rfl, HCZ.out _ hBk2, fun hHeld => ?_⟩
        simp only [Act.put, List.setIfInBounds_toArray, List.set_cons_zero, List.set_cons_succ]
        refine hTake 5 (Op.move (Operand.tmp 128)) (some 123) (.tuple #[.agg (refC mf rr), .int .i64 (codeA fa)]) (by kernel_rfl) (by kernel_rfl) (by kernel_rfl) (by kernel_rfl) (by kernel_rfl) (fun _ _ _ h => h) (fun o ho wX hX => by unfold execOp; simp only [ho]; go_simp) hHeld ?_
        simp only [Act.put, List.setIfInBounds_toArray, List.set_cons_zero, List.set_cons_succ]
        refine hTake 6 (Op.extract (Operand.tmp 123) 0) (some 129) (.agg (refC mf rr)) (by kernel_rfl) (by kernel_rfl) (by kernel_rfl) (by kernel_rfl) (by kernel_rfl) (fun _ _ _ h => h) (fun o ho wX hX => by unfold execOp; simp only [ho]; go_simp) hHeld ?_
        simp only [Act.put, List.setIfInBounds_toArray, List.set_cons_zero, List.set_cons_succ]
        refine hTake 7 (Op.extract (Operand.tmp 123) 1) (some 130) (.int .i64 (codeA fa)) (by kernel_rfl) (by kernel_rfl) (by kernel_rfl) (by kernel_rfl) (by kernel_rfl) (fun _ _ _ h => h) (fun o ho wX hX => by unfold execOp; simp only [ho]; go_simp) hHeld ?_
        simp only [Act.put, List.setIfInBounds_toArray, List.set_cons_zero, List.set_cons_succ]
        refine wpAnyH_ready (rs := [8]) (by kernel_rfl) (by simp) ?_
        refine rAlloc 8 48 (some 20) refZ (by kernel_rfl) (by kernel_rfl) zeroRef (HCZ.out _ (bstep hBk2 (bel1 _ _))) ?_ AllReadyH.nil
        simp only [Act.put, List.setIfInBounds_toArray, List.set_cons_zero, List.set_cons_succ]
        obtain ⟨gz, hgz⟩ : ∃ gz, gz = wk2.heap.size := ⟨_, rfl⟩
        obtain ⟨wk3, hwk3⟩ : ∃ wx, wx = wk2.alloc (.cells refZ 48) := ⟨_, rfl⟩
        have hbr3 : Below wk2.heap.size wk2 wk3 := by rw [hwk3]; exact bel1 _ _
        have hBk3 := bstep hBk2 hbr3
        have hG3 : Blk wk3 gz 48 refZ := by rw [hwk3, hgz]; exact Blk.new _ _ _
        have hgzS : wS.heap.size ≤ gz := by rw [hgz]; exact (show Below wS.heap.size wS wk2 from hBk2).size
        rw [← hgz, ← hwk3]
        clear hwk3 hgz
        have hBz : Below wS.heap.size wS (wk3.setCells gz 0 (refC mf rr).toList) := hBk3.trans (setCells_below hgzS _ _ _).1
        have honel : ∀ u ∈ (refC mf rr).toList, u.oneCell' = true := fun u hu => by have := hone; rw [Array.all_eq_true_iff_forall_mem] at this; exact this u (by simpa using hu)
        refine wpAnyH_ready (rs := [9]) (by kernel_rfl) (by simp) ?_
        refine rStoreS 9 48 (.tmp 20) (.tmp 129) none (cs := (refC mf rr).toList) (by kernel_rfl) (by kernel_rfl) (by exact rfl) (by exact rfl) (there_all hG3 rfl) (hlen _ _) honel (HCZ.out _ hBz) ?_ AllReadyH.nil
        simp only [Act.put, List.setIfInBounds_toArray, List.set_cons_zero, List.set_cons_succ]
        refine wpAnyH_ready (rs := [10]) (by kernel_rfl) (by simp) ?_
        refine rStep 10 (Op.assign (Operand.tmp 130)) (some 21) (.int .i64 (codeA fa)) (wk3.setCells gz 0 (refC mf rr).toList) (by kernel_rfl) (by kernel_rfl) (fun o ho => by unfold execOp; simp only [ho]; go_simp) (HCZ.out _ hBz) ?_ AllReadyH.nil
        simp only [Act.put, List.setIfInBounds_toArray, List.set_cons_zero, List.set_cons_succ]
        refine wpAnyH_done (by kernel_rfl) ?_ _
        obtain ⟨wz, hwz⟩ : ∃ wz, wz = (wk3.setCells gz 0 (refC mf rr).toList) := ⟨_, rfl⟩
        rw [← hwz] at hBz ⊢
        have HZ := Lib.hid (HS.out.keep hBz)
        clear hwz hBz
        have HSTP := Lib.hid (fun wx (h : L18 w3 wx m11 d2 gs z ge q) => disk_steps wx m11 d2 h.st.dk)
        rw [hg11] at HSTP
        have HBZ : Hid (Below w.heap.size w wz) := Lib.hid (bstep HW3.out HZ.out.st.bel)
        rcases HF3.out with ⟨rfl, hst3⟩ | ⟨rfl | rfl, hst3⟩
        · simp only [valE, codeA]
          go_wp2_with fail
          refine (code18 none _ ⟨by decide, by decide⟩).mono ?_
          rintro e w9 ⟨rfl, hb9⟩
          have H9 := Lib.hid (HZ.out.keep hb9)
          have HB9 := Lib.hid (bstep HBZ.out hb9)
          clear hb9
          simp only [codeA]
          go_wp2_with fail
          refine (HSTP.out _ H9.out).mono ?_
          rintro e wQ ⟨rfl, hwQ⟩
          rw [hwQ, hst3]
          clear hwQ
          have hcs : ((st + E.length + 1 : Nat) : Int) = (st : Int) + E.length + 1 := by omega
          rw [hcs]
          go_wp2_with fail
          go_ret
          exact ⟨rfl, HB9.out⟩
        · simp only [valE, baseVal, codeA]
          go_wp2_with fail
          refine (code18 (some (13, none)) _ ⟨by decide, by decide⟩).mono ?_
          rintro e w9 ⟨rfl, hb9⟩
          have H9 := Lib.hid (HZ.out.keep hb9)
          have HB9 := Lib.hid (bstep HBZ.out hb9)
          clear hb9
          simp only [codeA]
          go_wp2_with fail
          refine (HSTP.out _ H9.out).mono ?_
          rintro e wQ ⟨rfl, hwQ⟩
          rw [hwQ, hst3]
          clear hwQ
          go_wp2_with fail
          go_ret
          exact ⟨rfl, HB9.out⟩
        · simp only [valE, baseVal, codeA]
          go_wp2_with fail
          refine (code18 (some (15, none)) _ ⟨by decide, by decide⟩).mono ?_
          rintro e w9 ⟨rfl, hb9⟩
          have H9 := Lib.hid (HZ.out.keep hb9)
          have HB9 := Lib.hid (bstep HBZ.out hb9)
          clear hb9
          simp only [codeA]
          go_wp2_with fail
          refine (HSTP.out _ H9.out).mono ?_
          rintro e wQ ⟨rfl, hwQ⟩
          rw [hwQ, hst3]
          clear hwQ
          go_wp2_with fail
          go_ret
          exact ⟨rfl, HB9.out⟩
      · simp only [Act.put, List.setIfInBounds_toArray, List.set_cons_zero, List.set_cons_succ]
        obtain ⟨gz, hgz⟩ : ∃ gz, gz = wk1.heap.size := ⟨_, rfl⟩
        obtain ⟨wk4, hwk4⟩ : ∃ wx, wx = wk1.alloc (.cells refZ 48) := ⟨_, rfl⟩
        have hbr4 : Below wk1.heap.size wk1 wk4 := by rw [hwk4]; exact bel1 _ _
        have hBk4 := bstep hBk1 hbr4
        have hG4 : Blk wk4 gz 48 refZ := by rw [hwk4, hgz]; exact Blk.new _ _ _
        have hgzS : wS.heap.size ≤ gz := by rw [hgz]; exact (show Below wS.heap.size wS wk1 from hBk1).size
        rw [← hgz, ← hwk4]
        have hkx := hkr1.keep hbr4
        clear hwk4 hgz
        refine wpAnyH_ready (rs := [4]) (by kernel_rfl) (by simp) ?_
        refine rCall 4 (Op.call { callee := Callee.value (Operand.func 16), args := #[Operand.tmp 124, Operand.const (Value.int IntKind.i64 0), Operand.tmp 126, Operand.const (Value.int IntKind.u32 3), Operand.tmp 127], argTypes := #[48, 3, 3, 39, 27] }) (some 128) 16 #[.agg (refC mr1 (rnewD 20)), .int .i64 0, .int .i64 z, .int .u32 3, .slice A E.length cap] (by kernel_rfl) (by kernel_rfl) (fun o ho => by unfold execOp; simp only [ho]; go_simp) ?_ AllReadyH.nil
        refine (HRF.out wk4 mr1 hkx hBk4).mono ?_
        rintro e wk5 ⟨mf, rfl, hbr5, hone⟩
        have hBk5 := bstep hBk4 hbr5
        have hG5 := hG4.keep hbr5
        refine ⟨_, rfl, HCZ.out _ hBk5, fun hHeld => ?_⟩
        simp only [Act.put, List.setIfInBounds_toArray, List.set_cons_zero, List.set_cons_succ]
        refine hTake 5 (Op.move (Operand.tmp 128)) (some 123) (.tuple #[.agg (refC mf rr), .int .i64 (codeA fa)]) (by kernel_rfl) (by kernel_rfl) (by kernel_rfl) (by kernel_rfl) (by kernel_rfl) (fun _ _ _ h => h) (fun o ho wX hX => by unfold execOp; simp only [ho]; go_simp) hHeld ?_
        simp only [Act.put, List.setIfInBounds_toArray, List.set_cons_zero, List.set_cons_succ]
        refine hTake 6 (Op.extract (Operand.tmp 123) 0) (some 129) (.agg (refC mf rr)) (by kernel_rfl) (by kernel_rfl) (by kernel_rfl) (by kernel_rfl) (by kernel_rfl) (fun _ _ _ h => h) (fun o ho wX hX => by unfold execOp; simp only [ho]; go_simp) hHeld ?_
        simp only [Act.put, List.setIfInBounds_toArray, List.set_cons_zero, List.set_cons_succ]
        refine hTake 7 (Op.extract (Operand.tmp 123) 1) (some 130) (.int .i64 (codeA fa)) (by kernel_rfl) (by kernel_rfl) (by kernel_rfl) (by kernel_rfl) (by kernel_rfl) (fun _ _ _ h => h) (fun o ho wX hX => by unfold execOp; simp only [ho]; go_simp) hHeld ?_
        simp only [Act.put, List.setIfInBounds_toArray, List.set_cons_zero, List.set_cons_succ]
        have hBz : Below wS.heap.size wS (wk5.setCells gz 0 (refC mf rr).toList) := hBk5.trans (setCells_below hgzS _ _ _).1
        have honel : ∀ u ∈ (refC mf rr).toList, u.oneCell' = true := fun u hu => by have := hone; rw [Array.all_eq_true_iff_forall_mem] at this; exact this u (by simpa using hu)
        refine wpAnyH_ready (rs := [9]) (by kernel_rfl) (by simp) ?_
        refine rStoreS 9 48 (.tmp 20) (.tmp 129) none (cs := (refC mf rr).toList) (by kernel_rfl) (by kernel_rfl) (by exact rfl) (by exact rfl) (there_all hG5 rfl) (hlen _ _) honel (HCZ.out _ hBz) ?_ AllReadyH.nil
        simp only [Act.put, List.setIfInBounds_toArray, List.set_cons_zero, List.set_cons_succ]
        refine wpAnyH_ready (rs := [10]) (by kernel_rfl) (by simp) ?_
        refine rStep 10 (Op.assign (Operand.tmp 130)) (some 21) (.int .i64 (codeA fa)) (wk5.setCells gz 0 (refC mf rr).toList) (by kernel_rfl) (by kernel_rfl) (fun o ho => by unfold execOp; simp only [ho]; go_simp) (HCZ.out _ hBz) ?_ AllReadyH.nil
        simp only [Act.put, List.setIfInBounds_toArray, List.set_cons_zero, List.set_cons_succ]
        refine wpAnyH_done (by kernel_rfl) ?_ _
        obtain ⟨wz, hwz⟩ : ∃ wz, wz = (wk5.setCells gz 0 (refC mf rr).toList) := ⟨_, rfl⟩
        rw [← hwz] at hBz ⊢
        have HZ := Lib.hid (HS.out.keep hBz)
        clear hwz hBz
        have HSTP := Lib.hid (fun wx (h : L18 w3 wx m11 d2 gs z ge q) => disk_steps wx m11 d2 h.st.dk)
        rw [hg11] at HSTP
        have HBZ : Hid (Below w.heap.size w wz) := Lib.hid (bstep HW3.out HZ.out.st.bel)
        rcases HF3.out with ⟨rfl, hst3⟩ | ⟨rfl | rfl, hst3⟩
        · simp only [valE, codeA]
          go_wp2_with fail
          refine (code18 none _ ⟨by decide, by decide⟩).mono ?_
          rintro e w9 ⟨rfl, hb9⟩
          have H9 := Lib.hid (HZ.out.keep hb9)
          have HB9 := Lib.hid (bstep HBZ.out hb9)
          clear hb9
          simp only [codeA]
          go_wp2_with fail
          refine (HSTP.out _ H9.out).mono ?_
          rintro e wQ ⟨rfl, hwQ⟩
          rw [hwQ, hst3]
          clear hwQ
          have hcs : ((st + E.length + 1 : Nat) : Int) = (st : Int) + E.length + 1 := by omega
          rw [hcs]
          go_wp2_with fail
          go_ret
          exact ⟨rfl, HB9.out⟩
        · simp only [valE, baseVal, codeA]
          go_wp2_with fail
          refine (code18 (some (13, none)) _ ⟨by decide, by decide⟩).mono ?_
          rintro e w9 ⟨rfl, hb9⟩
          have H9 := Lib.hid (HZ.out.keep hb9)
          have HB9 := Lib.hid (bstep HBZ.out hb9)
          clear hb9
          simp only [codeA]
          go_wp2_with fail
          refine (HSTP.out _ H9.out).mono ?_
          rintro e wQ ⟨rfl, hwQ⟩
          rw [hwQ, hst3]
          clear hwQ
          go_wp2_with fail
          go_ret
          exact ⟨rfl, HB9.out⟩
        · simp only [valE, baseVal, codeA]
          go_wp2_with fail
          refine (code18 (some (15, none)) _ ⟨by decide, by decide⟩).mono ?_
          rintro e w9 ⟨rfl, hb9⟩
          have H9 := Lib.hid (HZ.out.keep hb9)
          have HB9 := Lib.hid (bstep HBZ.out hb9)
          clear hb9
          simp only [codeA]
          go_wp2_with fail
          refine (HSTP.out _ H9.out).mono ?_
          rintro e wQ ⟨rfl, hwQ⟩
          rw [hwQ, hst3]
          clear hwQ
          go_wp2_with fail
          go_ret
          exact ⟨rfl, HB9.out⟩
    · simp only [Act.put, List.setIfInBounds_toArray, List.set_cons_zero, List.set_cons_succ]
      obtain ⟨gz, hgz⟩ : ∃ gz, gz = wS.heap.size := ⟨_, rfl⟩
      obtain ⟨wk6, hwk6⟩ : ∃ wx, wx = wS.alloc (.cells refZ 48) := ⟨_, rfl⟩
      have hbr6 : Below wS.heap.size wS wk6 := by rw [hwk6]; exact bel1 _ _
      have hBk6 := bstep (Below.refl _ wS) hbr6
      have hG6 : Blk wk6 gz 48 refZ := by rw [hwk6, hgz]; exact Blk.new _ _ _
      have hgzS : wS.heap.size ≤ gz := by rw [hgz]; exact (show Below wS.heap.size wS wS from (Below.refl _ wS)).size
      rw [← hgz, ← hwk6]
      clear hwk6 hgz
      refine wpAnyH_ready (rs := [0]) (by kernel_rfl) (by simp) ?_
      refine rCall 0 (Op.call { callee := Callee.value (Operand.func 17), args := #[Operand.const (Value.int IntKind.i64 20)], argTypes := #[3] }) (some 124) 17 #[.int .i64 20] (by kernel_rfl) (by kernel_rfl) (fun o ho => by unfold execOp; simp only [ho]; go_simp) ?_ AllReadyH.nil
      refine (HNW.out wk6).mono ?_
      rintro e wk7 ⟨mr7, rfl, hkr7, hbr7, _⟩
      have hBk7 := bstep hBk6 hbr7
      have hG7 := hG6.keep hbr7
      refine ⟨_, rfl, HCZ.out _ hBk7, fun _ => ?_⟩
      simp only [Act.put, List.setIfInBounds_toArray, List.set_cons_zero, List.set_cons_succ]
      refine wpAnyH_ready (rs := [4]) (by kernel_rfl) (by simp) ?_
      refine rCall 4 (Op.call { callee := Callee.value (Operand.func 16), args := #[Operand.tmp 124, Operand.const (Value.int IntKind.i64 0), Operand.tmp 126, Operand.const (Value.int IntKind.u32 3), Operand.tmp 127], argTypes := #[48, 3, 3, 39, 27] }) (some 128) 16 #[.agg (refC mr7 (rnewD 20)), .int .i64 0, .int .i64 z, .int .u32 3, .slice A E.length cap] (by kernel_rfl) (by kernel_rfl) (fun o ho => by unfold execOp; simp only [ho]; go_simp) ?_ AllReadyH.nil
      refine (HRF.out wk7 mr7 hkr7 hBk7).mono ?_
      rintro e wk8 ⟨mf, rfl, hbr8, hone⟩
      have hBk8 := bstep hBk7 hbr8
      have hG8 := hG7.keep hbr8
      refine ⟨_, rfl, HCZ.out _ hBk8, fun hHeld => ?_⟩
      simp only [Act.put, List.setIfInBounds_toArray, List.set_cons_zero, List.set_cons_succ]
      refine hTake 5 (Op.move (Operand.tmp 128)) (some 123) (.tuple #[.agg (refC mf rr), .int .i64 (codeA fa)]) (by kernel_rfl) (by kernel_rfl) (by kernel_rfl) (by kernel_rfl) (by kernel_rfl) (fun _ _ _ h => h) (fun o ho wX hX => by unfold execOp; simp only [ho]; go_simp) hHeld ?_
      simp only [Act.put, List.setIfInBounds_toArray, List.set_cons_zero, List.set_cons_succ]
      refine hTake 6 (Op.extract (Operand.tmp 123) 0) (some 129) (.agg (refC mf rr)) (by kernel_rfl) (by kernel_rfl) (by kernel_rfl) (by kernel_rfl) (by kernel_rfl) (fun _ _ _ h => h) (fun o ho wX hX => by unfold execOp; simp only [ho]; go_simp) hHeld ?_
      simp only [Act.put, List.setIfInBounds_toArray, List.set_cons_zero, List.set_cons_succ]
      refine hTake 7 (Op.extract (Operand.tmp 123) 1) (some 130) (.int .i64 (codeA fa)) (by kernel_rfl) (by kernel_rfl) (by kernel_rfl) (by kernel_rfl) (by kernel_rfl) (fun _ _ _ h => h) (fun o ho wX hX => by unfold execOp; simp only [ho]; go_simp) hHeld ?_
      simp only [Act.put, List.setIfInBounds_toArray, List.set_cons_zero, List.set_cons_succ]
      have hBz : Below wS.heap.size wS (wk8.setCells gz 0 (refC mf rr).toList) := hBk8.trans (setCells_below hgzS _ _ _).1
      have honel : ∀ u ∈ (refC mf rr).toList, u.oneCell' = true := fun u hu => by have := hone; rw [Array.all_eq_true_iff_forall_mem] at this; exact this u (by simpa using hu)
      refine wpAnyH_ready (rs := [9]) (by kernel_rfl) (by simp) ?_
      refine rStoreS 9 48 (.tmp 20) (.tmp 129) none (cs := (refC mf rr).toList) (by kernel_rfl) (by kernel_rfl) (by exact rfl) (by exact rfl) (there_all hG8 rfl) (hlen _ _) honel (HCZ.out _ hBz) ?_ AllReadyH.nil
      simp only [Act.put, List.setIfInBounds_toArray, List.set_cons_zero, List.set_cons_succ]
      refine wpAnyH_ready (rs := [10]) (by kernel_rfl) (by simp) ?_
      refine rStep 10 (Op.assign (Operand.tmp 130)) (some 21) (.int .i64 (codeA fa)) (wk8.setCells gz 0 (refC mf rr).toList) (by kernel_rfl) (by kernel_rfl) (fun o ho => by unfold execOp; simp only [ho]; go_simp) (HCZ.out _ hBz) ?_ AllReadyH.nil
      simp only [Act.put, List.setIfInBounds_toArray, List.set_cons_zero, List.set_cons_succ]
      refine wpAnyH_done (by kernel_rfl) ?_ _
      obtain ⟨wz, hwz⟩ : ∃ wz, wz = (wk8.setCells gz 0 (refC mf rr).toList) := ⟨_, rfl⟩
      rw [← hwz] at hBz ⊢
      have HZ := Lib.hid (HS.out.keep hBz)
      clear hwz hBz
      have HSTP := Lib.hid (fun wx (h : L18 w3 wx m11 d2 gs z ge q) => disk_steps wx m11 d2 h.st.dk)
      rw [hg11] at HSTP
      have HBZ : Hid (Below w.heap.size w wz) := Lib.hid (bstep HW3.out HZ.out.st.bel)
      rcases HF3.out with ⟨rfl, hst3⟩ | ⟨rfl | rfl, hst3⟩
      · simp only [valE, codeA]
        go_wp2_with fail
        refine (code18 none _ ⟨by decide, by decide⟩).mono ?_
        rintro e w9 ⟨rfl, hb9⟩
        have H9 := Lib.hid (HZ.out.keep hb9)
        have HB9 := Lib.hid (bstep HBZ.out hb9)
        clear hb9
        simp only [codeA]
        go_wp2_with fail
        refine (HSTP.out _ H9.out).mono ?_
        rintro e wQ ⟨rfl, hwQ⟩
        rw [hwQ, hst3]
        clear hwQ
        have hcs : ((st + E.length + 1 : Nat) : Int) = (st : Int) + E.length + 1 := by omega
        rw [hcs]
        go_wp2_with fail
        go_ret
        exact ⟨rfl, HB9.out⟩
      · simp only [valE, baseVal, codeA]
        go_wp2_with fail
        refine (code18 (some (13, none)) _ ⟨by decide, by decide⟩).mono ?_
        rintro e w9 ⟨rfl, hb9⟩
        have H9 := Lib.hid (HZ.out.keep hb9)
        have HB9 := Lib.hid (bstep HBZ.out hb9)
        clear hb9
        simp only [codeA]
        go_wp2_with fail
        refine (HSTP.out _ H9.out).mono ?_
        rintro e wQ ⟨rfl, hwQ⟩
        rw [hwQ, hst3]
        clear hwQ
        go_wp2_with fail
        go_ret
        exact ⟨rfl, HB9.out⟩
      · simp only [valE, baseVal, codeA]
        go_wp2_with fail
        refine (code18 (some (15, none)) _ ⟨by decide, by decide⟩).mono ?_
        rintro e w9 ⟨rfl, hb9⟩
        have H9 := Lib.hid (HZ.out.keep hb9)
        have HB9 := Lib.hid (bstep HBZ.out hb9)
        clear hb9
        simp only [codeA]
        go_wp2_with fail
        refine (HSTP.out _ H9.out).mono ?_
        rintro e wQ ⟨rfl, hwQ⟩
        rw [hwQ, hst3]
        clear hwQ
        go_wp2_with fail
        go_ret
        exact ⟨rfl, HB9.out⟩
end Go.Proofs.Ytpkcddnclifcpaa
