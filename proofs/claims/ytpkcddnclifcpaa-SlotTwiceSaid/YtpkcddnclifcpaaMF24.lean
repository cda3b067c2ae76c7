/- Parts: tolllaw18.awake. -/
import Derived.Test.YtpkcddnclifcpaaMF15
import Derived.Test.YtpkcddnclifcpaaMF10
import Derived.Test.YtpkcddnclifcpaaMF23
import Derived.Test.YtpkcddnclifcpaaMF21
namespace Go.Proofs.Ytpkcddnclifcpaa
open Go.RowKit
attribute [local irreducible] wpQuiet wpAnyH
set_option linter.unusedSimpArgs false

theorem stC_one (st : SSt) (A : Option Addr) (n cap : Nat) : (stC st (.slice A n cap)).all (·.oneCell') = true := all_oneCell_toArray (cs := [.bool st.1.isSome, .int .u32 (st.1.getD 0 : Nat), .slice A n cap]) fun u hu => by
  simp only [List.mem_cons, List.not_mem_nil, or_false] at hu
  rcases hu with rfl | rfl | rfl <;> rfl
def e470 : Ent2 := numE 4 70
theorem e470_ok : EntOk e470 := numE_ok 4 70 ⟨by decide, by decide⟩
theorem e470_right : rightE e470 = true := by
  unfold rightE e470 numE
  decide
/-- The values of the calls. -/
theorem awake_vals : ∃ d1 d2 : DiskD, putD (newD 9) 4 4 1 6 e470 = d1 ∧ putA (newD 9) 4 4 1 6 e470 = none ∧ d1.room ≤ 10 ∧ wsD d1 4 (rec 6 toll) = d2 ∧ wsA d1 4 (rec 6 toll) = none ∧ d2.room ≤ 20 ∧
    scanR (none, []) (secsL d2 4 (4 : Nat)) = ((some 6, [e470]), none) ∧ scanR (none, []) (secsL d2 0 (4 : Nat)) = ((none, []), none) := by
  have hR : ∀ (d : DiskD), putD d 4 4 1 6 e470 = wsD d 5 (entRec 6 e470) ∧ putA d 4 4 1 6 e470 = wsA d 5 (entRec 6 e470) := fun d => by
    unfold putD putA
    rw [e470_right]
    exact ⟨rfl, rfl⟩
  obtain ⟨r1, _, hr1, h1⟩ := wsD_q (sec := List.replicate 9 zsec) (st := 0) (r := 0) (a := 5) (by decide) (by simp) (entRec 6 e470)
  obtain ⟨r2, _, hr2, h2⟩ := wsD_q (sec := (List.replicate 9 zsec).set 5 (entRec 6 e470)) (st := 2) (r := r1) (a := 4) (by decide) (by simp) (rec 6 toll)
  refine ⟨_, _, by rw [(hR _).1, newD_q, h1]; rfl, by rw [(hR _).2, newD_q]; exact wsA_q (by decide) (by simp) _, by show r1 ≤ 10; omega, h2, wsA_q (by decide) (by simp) _, by show r2 ≤ 20; omega, ?_, ?_⟩
  · rw [secs_still rfl rfl 4 4 (by decide) (by simp [qD]), scan_still]
    show (scanL (none, []) [rec 6 toll, entRec 6 e470, zsec, zsec], none) = _
    rw [scan_head 6 (by decide)]
    have := scan_ents 6 (by decide) [e470] [] [zsec, zsec] (fun q hq => by rw [List.mem_singleton.1 hq]; exact ⟨e470_ok, e470_right⟩)
    rw [show [entRec 6 e470, zsec, zsec] = [e470].map (entRec 6) ++ [zsec, zsec] from rfl, this, scan_stop (fun g' e h => by rw [prsE_zsec] at h; cases h)]
    rfl
  · rw [secs_still rfl rfl 4 0 (by decide) (by simp [qD]), scan_still]
    show (scanL (none, []) [zsec, zsec, zsec, zsec], none) = _
    rw [scan_zero]

set_option maxRecDepth 100000 in
set_option maxHeartbeats 4000000 in
theorem awake18 (w : World) : Calls Try.prog 7 #[] w fun e w' => e = .returned (.bool true) ∧ Below w.heap.size w w' := by
  obtain ⟨d1, d2, v1, v2, v3, v4, v5, v6, v7, v8⟩ := awake_vals
  have V1 := Lib.hid v1
  have V2 := Lib.hid v2
  have V4 := Lib.hid v4
  have V5 := Lib.hid v5
  have V7 := Lib.hid v7
  have V8 := Lib.hid v8
  clear v1 v2 v4 v5 v7 v8
  have HQ := Lib.hid e470_ok
  have hzs : ∀ w, (zeroValue 30).run Try.prog w = .ok (.agg #[.int .i64 0, .int .i64 0]) w := fun w => by kernel_rfl
  go_enter Try.func7, Try.ntmps7
  go_upto_region 1 with fail
  go_wp2_with (first
    | (go_at_call 8; refine (slot_halves 9 _ (by omega)).mono ?_; rintro e w1 ⟨rfl, hb1⟩; have HB1 := Lib.hid hb1; clear hb1))
  obtain ⟨g, hg⟩ : ∃ g, g = w1.heap.size := ⟨_, rfl⟩
  rw [← hg]
  have hBa : Blk ((w1.alloc (.cells #[.int .i64 0, .int .i64 4] 30)).alloc (.cells #[.int .i64 4, .int .i64 4] 30)) g 30 #[.int .i64 0, .int .i64 4] := by rw [hg]; exact (Blk.new _ _ _).alloc _
  have hBb : Blk ((w1.alloc (.cells #[.int .i64 0, .int .i64 4] 30)).alloc (.cells #[.int .i64 4, .int .i64 4] 30)) (g + 1) 30 #[.int .i64 4, .int .i64 4] := Blk.newAt _ _ _ _ (by rw [hg]; simp)
  have hb2 : Below w.heap.size w ((w1.alloc (.cells #[.int .i64 0, .int .i64 4] 30)).alloc (.cells #[.int .i64 4, .int .i64 4] 30)) := bstep (bstep HB1.out (bel1 _ _)) (bel1 _ _)
  obtain ⟨w2, hw2⟩ : ∃ w2, w2 = (w1.alloc (.cells #[.int .i64 0, .int .i64 4] 30)).alloc (.cells #[.int .i64 4, .int .i64 4] 30) := ⟨_, rfl⟩
  rw [← hw2] at hBa hBb hb2 ⊢
  have HBA := Lib.hid hBa
  have HBB := Lib.hid hBb
  have HB2 := Lib.hid hb2
  clear hw2 hg hBa hBb hb2
  refine (disk_new 9 w2 (by omega) (by omega)).mono ?_
  rintro e w3 ⟨m3, rfl, hk3, hb3, hf3⟩
  have HS3 : Hid (St w2 w3 m3 (newD 9)) := Lib.hid ⟨hk3, hf3, hb3⟩
  clear hk3 hb3 hf3
  have HA3 := Lib.hid (LB.old HS3.out HBA.out)
  have HB3 := Lib.hid (LB.old HS3.out HBB.out)
  have he1 : (entP e470).length = 33 := entP_length _ e470_ok
  have HE : Hid ((Try.prog.info? 26).map (·.size) = some (entP e470).toArray.size ∧ zE.size = (entP e470).toArray.size ∧ (entP e470).toArray.all (·.oneCell') = true ∧ (Try.prog.info? 26).map (·.size) = some (entP e470).length) := Lib.hid ⟨by rw [List.size_toArray, he1]; kernel_rfl, by rw [zE_size, List.size_toArray, he1], entC_one _ _, by rw [he1]; kernel_rfl⟩
  clear he1
  go_wp2_with fail
  refine (number17 4 70 w3 (by omega) ⟨by decide, by decide⟩).mono ?_
  rintro e w4 ⟨rfl, hb4⟩
  have HS4 := Lib.hid (HS3.out.keep hb4)
  have HA4 := Lib.hid (HA3.out.keep hb4)
  have HB4 := Lib.hid (HB3.out.keep hb4)
  have hen : numE 4 70 = e470 := rfl
  rw [hen]
  clear hb4 HS3 HA3 HB3 HBA HBB hen
  go_upto_region 6 with (first
    | (refine al 26 zE rfl rfl zeroE ?_)
    | (refine stNew (cells := (entP e470).toArray) 26 (.tmp 4) (.tmp 18) rfl rfl (by rfl) (by rfl) HE.out.1 HE.out.2.1 HE.out.2.2.1 ?_; intro w5 hK5 hb5 _))
  have HS5 := Lib.hid (HS4.out.keep hb5)
  have HA5 := Lib.hid (HA4.out.keep hb5)
  have HB5 := Lib.hid (HB4.out.keep hb5)
  have HE5 := Lib.hid (LB.fresh HS4.out.dk (Nat.le_refl _) (show Blk w5 w4.heap.size 26 (entP e470).toArray from hK5))
  obtain ⟨ge, hge⟩ : ∃ ge, ge = w4.heap.size := ⟨_, rfl⟩
  rw [← hge] at HE5 ⊢
  clear hb5 hK5 HS4 HA4 HB4 hge
  have hr1 := HB5.out.blk.range
  have hr2 := HE5.out.blk.range
  rw [List.toList_toArray] at hr1 hr2
  have HP := Lib.hid (slot_put 4 4 1 6 e470 w5 m3 (newD 9) HS5.out.dk (by omega) ⟨⟨by decide, by decide⟩, by omega⟩ ⟨by decide, by decide⟩ (by omega) HQ.out (by show 0 + 3 ≤ 100000; omega))
  rw [V1.out, V2.out] at HP
  go_upto_region 7 with (first
    | (refine ld 30 _ rfl rfl rfl hr1 Try.underlying30 rfl (by kernel_rfl) ?_)
    | (refine ld 26 _ rfl rfl rfl hr2 Try.underlying26 rfl HE.out.2.2.2 ?_)
    | (go_at_call 11; refine HP.out.mono ?_; rintro e w6 ⟨rfl, m6, hk6, ht6⟩))
  have HS6 := Lib.hid (HS5.out.next hk6 ht6)
  have HA6 := Lib.hid (HA5.out.next ht6)
  have HB6 := Lib.hid (HB5.out.next ht6)
  have HE6 := Lib.hid (HE5.out.next ht6)
  have hg6 := ht6.g
  clear hk6 ht6 HS5 HA5 HB5 HE5 HP V1 V2 hr1 hr2
  have hr1 := HB6.out.blk.range
  rw [List.toList_toArray] at hr1
  have HP := Lib.hid (slot_commit 4 4 6 w6 m6 d1 HS6.out.dk ⟨by decide, by decide⟩ (by omega) (by omega))
  rw [V4.out, V5.out, hg6] at HP
  go_upto_region 8 with (first
    | (refine ld 30 _ rfl rfl rfl hr1 Try.underlying30 rfl (by kernel_rfl) ?_)
    | (go_at_call 18; refine HP.out.mono ?_; rintro e w7 ⟨rfl, m7, hk7, ht7⟩))
  have HS7 := Lib.hid (HS6.out.next hk7 ht7)
  have HA7 := Lib.hid (HA6.out.next ht7)
  have HB7 := Lib.hid (HB6.out.next ht7)
  have HE7 := Lib.hid (HE6.out.next ht7)
  have hg7 := ht7.g.trans hg6
  clear hk7 ht7 HS6 HA6 HB6 HE6 HP V4 V5 hr1 hg6
  have hr1 := HB7.out.blk.range
  rw [List.toList_toArray] at hr1
  have HP := Lib.hid (slot_scan 4 4 w7 m7 d2 HS7.out.dk (by omega) (by omega))
  rw [V7.out, hg7] at HP
  simp only [valE] at HP ⊢
  go_upto_region 9 with (first
    | (refine ld 30 _ rfl rfl rfl hr1 Try.underlying30 rfl (by kernel_rfl) ?_)
    | (go_at_call 21; refine HP.out.mono ?_; rintro e w8 ⟨hb8, v8, rfl, ho8, hq8⟩; obtain ⟨A8, c8, rfl, _, _, _⟩ := id (Sn.own ho8))
    | (refine al 56 stZ rfl rfl zeroS ?_)
    | (refine stNew (cells := stC (some 6, [e470]) (.slice A8 1 c8)) 56 (.tmp 7) (.tmp 30) rfl rfl (by rfl) (by rfl) (by kernel_rfl) (by rfl) (stC_one _ _ _ _) ?_; intro w9 hK9 hb9 _))
  have HS9 := Lib.hid ((HS7.out.keep hb8).keep hb9)
  have HA9 := Lib.hid ((HA7.out.keep hb8).keep hb9)
  have HB9 := Lib.hid ((HB7.out.keep hb8).keep hb9)
  have HE9 := Lib.hid ((HE7.out.keep hb8).keep hb9)
  have HV9 := Lib.hid ((LS.own HS7.out.dk ho8).keep hb9)
  have HT9 := Lib.hid (show Blk w9 w8.heap.size 56 (stC (some 6, [e470]) (.slice A8 1 c8)) from hK9)
  obtain ⟨g7, hg7'⟩ : ∃ g7, g7 = w8.heap.size := ⟨_, rfl⟩
  rw [← hg7'] at HT9 ⊢
  clear hb8 hb9 hK9 HS7 HA7 HB7 HE7 ho8 hq8 hg7' V7 HP hr1
  have hr1 := HA9.out.blk.range
  rw [List.toList_toArray] at hr1
  have HP := Lib.hid (slot_scan 0 4 w9 m7 d2 HS9.out.dk (by omega) (by omega))
  rw [V8.out, hg7] at HP
  simp only [valE] at HP
  go_upto_region 10 with (first
    | (refine ld 30 _ rfl rfl rfl hr1 Try.underlying30 rfl (by kernel_rfl) ?_)
    | (go_at_call 21; refine HP.out.mono ?_; rintro e w10 ⟨hb10, v10, rfl, ho10, hq10⟩; obtain ⟨A10, c10, rfl, _, _, _⟩ := id (Sn.own ho10))
    | (refine al 56 stZ rfl rfl zeroS ?_)
    | (refine stNew (cells := stC (none, []) (.slice A10 0 c10)) 56 (.tmp 9) (.tmp 36) rfl rfl (by rfl) (by rfl) (by kernel_rfl) (by rfl) (stC_one _ _ _ _) ?_; intro w11 hK11 hb11 _))
  have HA11 := Lib.hid ((HA9.out.keep hb10).keep hb11)
  have HB11 := Lib.hid ((HB9.out.keep hb10).keep hb11)
  have HE11 := Lib.hid ((HE9.out.keep hb10).keep hb11)
  have HV11 := Lib.hid ((HV9.out.keep hb10).keep hb11)
  have HT11 := Lib.hid ((HT9.out.keep hb10).keep hb11)
  have HU11 := Lib.hid (show Blk w11 w10.heap.size 56 (stC (none, []) (.slice A10 0 c10)) from hK11)
  have HBW := Lib.hid (bstep HB2.out ((HS9.out.keep hb10).keep hb11).bel)
  obtain ⟨g9, hg9'⟩ : ∃ g9, g9 = w10.heap.size := ⟨_, rfl⟩
  rw [← hg9'] at HU11 ⊢
  clear hb10 hb11 hK11 HS9 HA9 HB9 HE9 HV9 HT9 ho10 hq10 hg9' V8 HP hr1
  have hr1 := HA11.out.blk.range
  have hr2 := HB11.out.blk.range
  rw [List.toList_toArray] at hr1 hr2
  go_wp2_with (first
    | (refine ld 30 _ rfl rfl rfl hr1 Try.underlying30 rfl (by kernel_rfl) ?_)
    | (refine ld 30 _ rfl rfl rfl hr2 Try.underlying30 rfl (by kernel_rfl) ?_))
  refine (slot_room 0 4 _ ⟨by decide, by decide⟩).mono ?_
  rintro e w12 ⟨rfl, hb12⟩
  have HT12 := Lib.hid (HT11.out.keep hb12)
  have HU12 := Lib.hid (HU11.out.keep hb12)
  have HE12 := Lib.hid (HE11.out.keep hb12)
  have HV12 := Lib.hid (HV11.out.keep hb12).sn
  have HBW12 := Lib.hid (bstep HBW.out hb12)
  clear hb12 HT11 HU11 HE11 HV11 HBW HA11 HB11 hr1 hr2
  have hr3 := HE12.out.blk.range
  rw [List.toList_toArray] at hr3
  have c1 := HT12.out.cell 0
  have c2 := HT12.out.cell 1
  have c3 := HT12.out.cell 2
  have c4 := HU12.out.cell 0
  simp only [stC, List.getElem?_toArray, List.getElem?_cons_zero, List.getElem?_cons_succ] at c1 c2 c3 c4
  simp only [Option.isSome_some, Option.isSome_none, Option.getD_some] at c1 c2 c4
  have hrm : room 4 = 3 := rfl
  rw [hrm]
  have HOKE : Hid (∀ p ∈ [e470], EntOk p) := Lib.hid (fun p hp => by rw [List.mem_singleton.1 hp]; exact e470_ok)
  have HBO := Lib.hid (fun Z hz => (show (entP e470).zipIdx.foldl (fun (cs : Array Value) (x : Value × Nat) => cs.setIfInBounds x.2 x.1) Z = (entP e470).toArray from build_one e470.1 e470.2 e470_ok.dig Z hz))
  go_wp2_with (refine ld 26 _ rfl rfl rfl hr3 Try.underlying26 rfl HE.out.2.2.2 ?_)
  rw [HBO.out _ (by rfl)]
  have hnew : Sn (w12.alloc (.cells (entP e470).toArray 26)) 33 (.slice (some ⟨w12.heap.size, 0, none⟩) 1 1) [e470].length ([e470].flatMap entP) := by
    have := Sn.new w12 (entP e470).toArray 26 33 1 HE.out.2.1.symm
    rw [List.flatMap_singleton]
    exact this
  refine (same_any _ _ [e470] [e470] _ (HV12.out.alloc _) HOKE.out hnew HOKE.out (by simp) (by simp)).mono ?_
  rintro e w13 ⟨rfl, hb13⟩
  have HBF := Lib.hid (bstep (bstep HBW12.out (bel1 _ _)) hb13)

  have c5 := (Blk.keep (Blk.alloc HU12.out (.cells (entP e470).toArray 26)) hb13).cell 0
  simp only [stC, List.getElem?_toArray, List.getElem?_cons_zero, Option.isSome_none] at c5
  clear hb13 hnew c1 c2 c3 c4 hr3 HT12 HU12 HE12 HV12
  simp only [decide_true]
  go_wp2_with fail
  go_ret
  exact ⟨rfl, HBF.out⟩
end Go.Proofs.Ytpkcddnclifcpaa
