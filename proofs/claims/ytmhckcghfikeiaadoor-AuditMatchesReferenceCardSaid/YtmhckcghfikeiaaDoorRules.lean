/- The rules of audit, asked of a view. -/
import Derived.Test.YtmhckcghfikeiaaDoorTimes
import Derived.Test.YtmhckcghfikeiaaDoorHeld
namespace Go.Proofs.YtmhckcghfikeiaaDoor
open Go.RowKit
attribute [local irreducible] wpQuiet wpAnyH
set_option linter.unusedSimpArgs false

theorem viewC_get (v : View) (h : ViewOk v) : (viewC v)[0]? = some (.int .i64 v.row.kind) ∧ (viewC v)[1]? = some (.int .i64 v.row.code) ∧ (viewC v)[2]? = some (.int .i64 v.row.now) ∧ (viewC v)[3]? = some (.int .i64 v.row.live) ∧
    (viewC v)[36]? = some (.int .i64 v.skew) ∧ (viewC v)[37]? = some (.bool v.first) ∧ (viewC v)[38]? = some (.int .i64 v.now) ∧ (viewC v)[39]? = some (.int .i64 v.live) ∧ (viewC v)[40]? = some (.bool v.rep) ∧ (viewC v)[41]? = some (.bool v.booted) ∧ (viewC v)[42]? = some (.int .i64 v.boot) := by
  have hl := rowC_length h.row
  unfold viewC
  refine ⟨rfl, rfl, rfl, rfl, ?_, ?_, ?_, ?_, ?_, ?_, ?_⟩ <;> (rw [List.getElem?_append_right (by omega), hl]; rfl)
/-- A boxed view. -/
structure VBox (w : World) (g : Nat) (v : View) : Prop where
  row : w.rangeAt g 0 (viewC v)
  kind : w.cell? ⟨g, 0, none⟩ = some (.int .i64 v.row.kind)
  code : w.cell? ⟨g, 1, none⟩ = some (.int .i64 v.row.code)
  rnow : w.cell? ⟨g, 2, none⟩ = some (.int .i64 v.row.now)
  rlive : w.cell? ⟨g, 3, none⟩ = some (.int .i64 v.row.live)
  skew : w.cell? ⟨g, 36, none⟩ = some (.int .i64 v.skew)
  first : w.cell? ⟨g, 37, none⟩ = some (.bool v.first)
  now : w.cell? ⟨g, 38, none⟩ = some (.int .i64 v.now)
  live : w.cell? ⟨g, 39, none⟩ = some (.int .i64 v.live)
  rep : w.cell? ⟨g, 40, none⟩ = some (.bool v.rep)
  booted : w.cell? ⟨g, 41, none⟩ = some (.bool v.booted)
  boot : w.cell? ⟨g, 42, none⟩ = some (.int .i64 v.boot)
theorem VBox.of_blk {w : World} {g : Nat} {t : TypeId} {v : View} (hB : Blk w g t (viewC v).toArray) (h : ViewOk v) : VBox w g v := by
  obtain ⟨h0, h1, h2, h3, h4, h5, h6, h7, h8, h9, h10⟩ := viewC_get v h
  have := hB.range
  rw [List.toList_toArray] at this
  refine ⟨this, ?_, ?_, ?_, ?_, ?_, ?_, ?_, ?_, ?_, ?_, ?_⟩ <;> (rw [hB.cell, List.getElem?_toArray]; assumption)
theorem vsize {v : View} (h : ViewOk v) : (Tryd.prog.info? 70).map (·.size) = some (viewC v).length := by rw [viewC_length h]; kernel_rfl
theorem bel1 (w : World) (o : Obj) : Below w.heap.size w (w.alloc o) := (Below.refl _ w).alloc (Nat.le_refl _) o

set_option maxRecDepth 100000 in
theorem answer_any (v : View) (w : World) (h : ViewOk v) :
    Calls Tryd.prog 34 #[.agg (viewC v).toArray] w fun e w' => e = .returned (.bool (ansB v)) ∧ Below w.heap.size w w' := by
  have hV := VBox.of_blk (Blk.new w 70 (viewC v).toArray) h
  have h0 := hV.kind
  have hbA := bel1 w (.cells (viewC v).toArray 70)
  clear hV h
  go_enter Tryd.func34, Tryd.ntmps34
  go_wp2_with fail
  go_ret
  exact ⟨rfl, hbA⟩
set_option maxRecDepth 100000 in
theorem clock_any (v : View) (w : World) (h : ViewOk v) :
    Calls Tryd.prog 27 #[.agg (viewC v).toArray] w fun e w' => e = .returned (.bool (clockB v)) ∧ Below w.heap.size w w' := by
  have hV := VBox.of_blk (Blk.new w 70 (viewC v).toArray) h
  have h0 := hV.first
  have h1 := hV.rnow
  have h2 := hV.now
  have hbA := bel1 w (.cells (viewC v).toArray 70)
  clear hV h
  unfold clockB
  rcases Bool.eq_false_or_eq_true v.first with t1 | t1 <;> rcases Bool.eq_false_or_eq_true (decide (v.row.now < v.now)) with t2 | t2
  all_goals
    rw [t1] at h0 ⊢
    rw [t2]
    go_enter Tryd.func27, Tryd.ntmps27
    go_wp2_with fail
    go_ret
    exact ⟨rfl, hbA⟩
set_option maxRecDepth 100000 in
theorem once_any (v : View) (w : World) (h : ViewOk v) :
    Calls Tryd.prog 28 #[.agg (viewC v).toArray] w fun e w' => e = .returned (.bool (onceB v)) ∧ Below w.heap.size w w' := by
  have hV := VBox.of_blk (Blk.new w 70 (viewC v).toArray) h
  have hbA := bel1 w (.cells (viewC v).toArray 70)
  have HV := Lib.hid hV
  have H := Lib.hid h
  clear hV h
  unfold onceB
  rcases Bool.eq_false_or_eq_true (ansB v) with t0 | t0 <;> rcases Bool.eq_false_or_eq_true (v.row.code == 10) with t1 | t1 <;> rcases Bool.eq_false_or_eq_true v.rep with t2 | t2
  all_goals
    go_enter Tryd.func28, Tryd.ntmps28
    go_wp2_with (refine ld 70 _ rfl rfl rfl HV.out.row Tryd.underlying70 rfl (vsize H.out) ?_)
    refine (answer_any v _ H.out).mono ?_
    rintro e w1 ⟨rfl, hb1⟩
    have h1 := Below.cell' hb1 HV.out.code
    have h2 := Below.cell' hb1 HV.out.rep
    have hb2 := bstep hbA hb1
    clear hb1
    go_wp2_with fail
    go_ret
    refine ⟨?_, hb2⟩
    rw [t0, t1, t2]
    rfl
set_option maxRecDepth 100000 in
set_option maxHeartbeats 1000000 in
theorem quiet_any (v : View) (w : World) (h : ViewOk v) :
    Calls Tryd.prog 30 #[.agg (viewC v).toArray] w fun e w' => e = .returned (.bool (quietB v)) ∧ Below w.heap.size w w' := by
  have hV := VBox.of_blk (Blk.new w 70 (viewC v).toArray) h
  have hbA := bel1 w (.cells (viewC v).toArray 70)
  have HV := Lib.hid hV
  have H := Lib.hid h
  clear hV h
  unfold quietB
  rcases Bool.eq_false_or_eq_true (ansB v) with t0 | t0 <;> rcases Bool.eq_false_or_eq_true (decide (1 ≤ v.row.code)) with t1 | t1 <;> rcases Bool.eq_false_or_eq_true (decide (v.row.code ≤ 8)) with t2 | t2 <;> rcases Bool.eq_false_or_eq_true (v.row.live != v.live) with t3 | t3
  all_goals
    go_enter Tryd.func30, Tryd.ntmps30
    go_wp2_with (refine ld 70 _ rfl rfl rfl HV.out.row Tryd.underlying70 rfl (vsize H.out) ?_)
    refine (answer_any v _ H.out).mono ?_
    rintro e w1 ⟨rfl, hb1⟩
    have h1 := Below.cell' hb1 HV.out.code
    have h2 := Below.cell' hb1 HV.out.rlive
    have h3 := Below.cell' hb1 HV.out.live
    have hb2 := bstep hbA hb1
    clear hb1
    go_wp2_with fail
    go_ret
    refine ⟨?_, hb2⟩
    rw [t0, t1, t2, t3]
    rfl
set_option maxRecDepth 100000 in
set_option maxHeartbeats 1000000 in
theorem growth_any (v : View) (w : World) (h : ViewOk v) :
    Calls Tryd.prog 31 #[.agg (viewC v).toArray] w fun e w' => e = .returned (.bool (growB v)) ∧ Below w.heap.size w w' := by
  have hV := VBox.of_blk (Blk.new w 70 (viewC v).toArray) h
  have hbA := bel1 w (.cells (viewC v).toArray 70)
  have HV := Lib.hid hV
  have H := Lib.hid h
  clear hV h
  unfold growB
  have hmx : (v.live == 9223372036854775807) = false → v.live + 1 ≤ 9223372036854775807 := fun h => by
    have h1 := H.out.live.2
    have h2 : ¬ v.live = 9223372036854775807 := by simpa using h
    omega
  have hmn : -9223372036854775808 ≤ v.live + 1 := by have := H.out.live.1; omega
  rcases Bool.eq_false_or_eq_true (ansB v) with t0 | t0 <;> rcases Bool.eq_false_or_eq_true (v.row.code == 10) with t1 | t1 <;> rcases Bool.eq_false_or_eq_true (v.live == 9223372036854775807) with t2 | t2 <;> rcases Bool.eq_false_or_eq_true (v.row.live != v.live + 1) with t3 | t3
  all_goals
    have n1 : (v.row.code != 10) = !(v.row.code == 10) := rfl
    rw [t1] at n1
    simp only [Bool.not_true, Bool.not_false] at n1
    try have hmx' := hmx t2
    clear hmx
    go_enter Tryd.func31, Tryd.ntmps31
    go_wp2_with (refine ld 70 _ rfl rfl rfl HV.out.row Tryd.underlying70 rfl (vsize H.out) ?_)
    refine (answer_any v _ H.out).mono ?_
    rintro e w1 ⟨rfl, hb1⟩
    have h1 := Below.cell' hb1 HV.out.code
    have h2 := Below.cell' hb1 HV.out.rlive
    have h3 := Below.cell' hb1 HV.out.live
    have hb2 := bstep hbA hb1
    clear hb1
    go_wp2_with fail
    go_ret
    refine ⟨?_, hb2⟩
    rw [t0, t1, t2, t3]
    rfl
set_option maxRecDepth 100000 in
set_option maxHeartbeats 2000000 in
theorem quar_any (v : View) (w : World) (h : ViewOk v) :
    Calls Tryd.prog 29 #[.agg (viewC v).toArray] w fun e w' => e = .returned (.bool (quarB v)) ∧ Below w.heap.size w w' := by
  have hV := VBox.of_blk (Blk.new w 70 (viewC v).toArray) h
  have hbA := bel1 w (.cells (viewC v).toArray 70)
  have HV := Lib.hid hV
  have H := Lib.hid h
  clear hV h
  unfold quarB
  obtain ⟨S, hS⟩ : ∃ S, S = addS v.boot v.skew := ⟨_, rfl⟩
  rw [← hS]
  have HS := Lib.hid hS
  clear hS
  rcases Bool.eq_false_or_eq_true (ansB v) with t0 | t0
  · by_cases t1 : v.row.code = 8 ∨ v.row.code = 9 ∨ v.row.code = 10
    · have key : ∀ x y z : Bool, (v.row.code == 8) = x → (v.row.code == 9) = y → (v.row.code == 10) = z → (x, y, z) ∈ [(true, false, false), (false, true, false), (false, false, true)] →
          Calls Tryd.prog 29 #[.agg (viewC v).toArray] w fun e w' => e = .returned (.bool (ansB v && ((v.row.code == 8 || (v.row.code == 9 || v.row.code == 10)) && (!v.booted || decide (v.row.now ≤ S))))) ∧ Below w.heap.size w w' := by
        intro x y z c8 c9 c10 hx
        cases x <;> cases y <;> cases z
        all_goals first | (exact absurd hx (by decide)) | skip
        all_goals
          clear hx
          rcases Bool.eq_false_or_eq_true v.booted with t2 | t2
          · go_enter Tryd.func29, Tryd.ntmps29
            go_wp2_with (refine ld 70 _ rfl rfl rfl HV.out.row Tryd.underlying70 rfl (vsize H.out) ?_)
            refine (answer_any v _ H.out).mono ?_
            rintro e w1 ⟨rfl, hb1⟩
            have h1 := Below.cell' hb1 HV.out.code
            have h2 := Below.cell' hb1 HV.out.booted
            have h3 := Below.cell' hb1 HV.out.rnow
            have h4 := Below.cell' hb1 HV.out.boot
            have h5 := Below.cell' hb1 HV.out.skew
            have hb2 := bstep hbA hb1
            rw [t2] at h2
            clear hb1
            go_wp2_with fail
            go_region_held3 (fun w' => w'.cell? ⟨w.heap.size, 41, none⟩ = some (.bool true) ∧ w'.cell? ⟨w.heap.size, 2, none⟩ = some (.int .i64 v.row.now) ∧ w'.cell? ⟨w.heap.size, 42, none⟩ = some (.int .i64 v.boot) ∧ w'.cell? ⟨w.heap.size, 36, none⟩ = some (.int .i64 v.skew) ∧ Below w1.heap.size w1 w')
              (first
                | (refine ⟨by assumption, by assumption, by assumption, by assumption, (Below.refl _ _).drew⟩)
                | (go_split_ands; exact ⟨Below.cell' (by assumption) (by assumption), Below.cell' (by assumption) (by assumption), Below.cell' (by assumption) (by assumption), Below.cell' (by assumption) (by assumption), bstep (by assumption) (by assumption)⟩)
                | (go_split_ands; refine ⟨?_, ?_, ?_, ?_, (balloc (Below.refl _ _) _).drew⟩ <;> go_keep)
                | go_keep)
              ((first
                | (go_at_call 35; refine (add_any v.boot v.skew _ _ H.out.boot H.out.skew (Sl.drew (Sn.sl (Sn.new _ #[.int .i64 v.skew] 2 1 1 rfl)))).mono ?_; rintro e wN ⟨rfl, hbN⟩)))
            have hbF := bstep hb2 (show Below w1.heap.size w1 wN by go_split_ands; assumption)
            rw [← HS.out]
            go_wp2_with fail
            go_ret
            refine ⟨?_, hbF⟩
            rw [t0, c8, c9, c10, t2]
            rfl
          · go_enter Tryd.func29, Tryd.ntmps29
            go_wp2_with (refine ld 70 _ rfl rfl rfl HV.out.row Tryd.underlying70 rfl (vsize H.out) ?_)
            refine (answer_any v _ H.out).mono ?_
            rintro e w1 ⟨rfl, hb1⟩
            have h1 := Below.cell' hb1 HV.out.code
            have h2 := Below.cell' hb1 HV.out.booted
            have hb2 := bstep hbA hb1
            rw [t2] at h2
            clear hb1
            go_wp2_with fail
            go_quiet (fail)
            go_wp2_with fail
            go_ret
            refine ⟨?_, bdrewN hb2 _⟩
            rw [t0, c8, c9, c10, t2]
            rfl
      rcases t1 with hc | hc | hc
      · exact key true false false (by rw [hc]; rfl) (by rw [hc]; rfl) (by rw [hc]; rfl) (by decide)
      · exact key false true false (by rw [hc]; rfl) (by rw [hc]; rfl) (by rw [hc]; rfl) (by decide)
      · exact key false false true (by rw [hc]; rfl) (by rw [hc]; rfl) (by rw [hc]; rfl) (by decide)
    · have c8 : (v.row.code == 8) = false := beq_false_of_ne fun e => t1 (.inl e)
      have c9 : (v.row.code == 9) = false := beq_false_of_ne fun e => t1 (.inr (.inl e))
      have c10 : (v.row.code == 10) = false := beq_false_of_ne fun e => t1 (.inr (.inr e))
      clear t1
      go_enter Tryd.func29, Tryd.ntmps29
      go_wp2_with (refine ld 70 _ rfl rfl rfl HV.out.row Tryd.underlying70 rfl (vsize H.out) ?_)
      refine (answer_any v _ H.out).mono ?_
      rintro e w1 ⟨rfl, hb1⟩
      have h1 := Below.cell' hb1 HV.out.code
      have hb2 := bstep hbA hb1
      clear hb1
      go_wp2_with fail
      go_ret
      refine ⟨?_, hb2⟩
      rw [t0, c8, c9, c10]
      rfl
  · go_enter Tryd.func29, Tryd.ntmps29
    go_wp2_with (refine ld 70 _ rfl rfl rfl HV.out.row Tryd.underlying70 rfl (vsize H.out) ?_)
    refine (answer_any v _ H.out).mono ?_
    rintro e w1 ⟨rfl, hb1⟩
    have hb2 := bstep hbA hb1
    clear hb1
    go_wp2_with fail
    go_ret
    refine ⟨?_, hb2⟩
    rw [t0]
    rfl
/-- Each rule's function. -/
def ruleF (k : Nat) : Nat := match k with
  | 0 => 27
  | 1 => 28
  | 2 => 29
  | 3 => 30
  | _ => 31
theorem rule_any (k : Nat) (v : View) (w : World) (h : ViewOk v) :
    Calls Tryd.prog (ruleF k) #[.agg (viewC v).toArray] w fun e w' => e = .returned (.bool (ruleB k v)) ∧ Below w.heap.size w w' := by
  match k with
  | 0 => exact clock_any v w h
  | 1 => exact once_any v w h
  | 2 => exact quar_any v w h
  | 3 => exact quiet_any v w h
  | k + 4 => exact growth_any v w h
end Go.Proofs.YtmhckcghfikeiaaDoor
