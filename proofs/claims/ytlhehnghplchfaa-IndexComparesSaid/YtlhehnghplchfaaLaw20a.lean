/- The law IndexCompares: its walk. -/
import Derived.Test.YtlhehnghplchfaaAwake20
import Derived.Test.YtlhehnghplchfaaEqE
namespace Go.Proofs.Ytlhehnghplchfaa
open Go.RowKit

set_option maxRecDepth 100000 in
set_option maxHeartbeats 4000000 in
theorem compares_any (p q r : List Int × Int) (w : World) (hp : EntOk p) (hq : EntOk q) (hr : EntOk r) :
    Calls Try.prog 5 #[.agg (entP p).toArray, .agg (entP q).toArray, .agg (entP r).toArray] w fun e w' => e = .returned (.bool true) ∧ Below w.heap.size w w' := by
  have la := entP_length p hp
  have lb := entP_length q hq
  have lc := entP_length r hr
  have hbA : Below w.heap.size w (((w.alloc (.cells (entP p).toArray 31)).alloc (.cells (entP q).toArray 31)).alloc (.cells (entP r).toArray 31)) := (by repeat (first | exact Below.refl _ _ | assumption | refine bdrewN ?_ _ | refine Below.setCell ?_ (by first | exact Nat.le_refl _ | assumption | omega | (simp <;> omega)) _ | refine Below.alloc ?_ (by first | exact Nat.le_refl _ | assumption | omega | (simp <;> omega)) _))
  have ha0 := (((Blk.new w 31 (entP p).toArray).alloc (.cells (entP q).toArray 31)).alloc (.cells (entP r).toArray 31)).range
  have hb0 := ((Blk.newAt (w.alloc (.cells (entP p).toArray 31)) 31 (entP q).toArray (w.heap.size + 1) (by simp)).alloc (.cells (entP r).toArray 31)).range
  have hc0 := (Blk.newAt ((w.alloc (.cells (entP p).toArray 31)).alloc (.cells (entP q).toArray 31)) 31 (entP r).toArray (w.heap.size + 1 + 1) (by simp)).range
  rw [List.toList_toArray] at ha0 hb0 hc0
  go_enter Try.func5, Try.ntmps5
  go_wp2_with fail
  refine calls_w (((w.alloc (.cells (entP p).toArray 31)).alloc (.cells (entP q).toArray 31)).alloc (.cells (entP r).toArray 31)) (fun w0 hw0 => ?_)
  rw [← hw0] at hbA ha0 hb0 hc0
  clear hw0
  refine (awake_any w0).mono ?_
  rintro e w1 ⟨rfl, hb1⟩
  have ha1 := rkeep ha0 hb1
  have hb1' := rkeep hb0 hb1
  have hc1 := rkeep hc0 hb1
  have hbw1 := bstep hbA hb1
  clear ha0 hb0 hc0 hb1 hbA
  go_wp2_with (first
    | (refine ld 31 (.tmp 3) rfl rfl rfl ha1 Try.underlying31 rfl (by rw [la]; kernel_rfl) ?_)
    | (refine ld 31 (.tmp 4) rfl rfl rfl hb1' Try.underlying31 rfl (by rw [lb]; kernel_rfl) ?_))
  refine (compare_any p q w1 hp hq).mono ?_
  rintro e w2 ⟨rfl, hb2⟩
  have ha2 := rkeep ha1 hb2
  have hb2' := rkeep hb1' hb2
  have hc2 := rkeep hc1 hb2
  have hbw2 := bstep hbw1 hb2
  clear ha1 hb1' hc1 hb2 hbw1
  go_wp2_with (first
    | (refine ld 31 (.tmp 3) rfl rfl rfl ha2 Try.underlying31 rfl (by rw [la]; kernel_rfl) ?_)
    | (refine ld 31 (.tmp 4) rfl rfl rfl hb2' Try.underlying31 rfl (by rw [lb]; kernel_rfl) ?_))
  refine (ref_compare_any p q w2 hp hq).mono ?_
  rintro e w3 ⟨rfl, hb3⟩
  have ha3 := rkeep ha2 hb3
  have hb3' := rkeep hb2' hb3
  have hc3 := rkeep hc2 hb3
  have hbw3 := bstep hbw2 hb3
  clear ha2 hb2' hc2 hb3 hbw2
  go_wp2_with (first
    | (refine ld 31 (.tmp 3) rfl rfl rfl ha3 Try.underlying31 rfl (by rw [la]; kernel_rfl) ?_)
    | (refine ld 31 (.tmp 4) rfl rfl rfl hb3' Try.underlying31 rfl (by rw [lb]; kernel_rfl) ?_)
    | (refine ld 31 (.tmp 5) rfl rfl rfl hc3 Try.underlying31 rfl (by rw [lc]; kernel_rfl) ?_))
  have hcb := compare_any q p w3 hq hp
  rw [cmpE_neg p q] at hcb
  refine hcb.mono ?_
  clear hcb
  rintro e w4 ⟨rfl, hb4⟩
  have ha4 := rkeep ha3 hb4
  have hb4' := rkeep hb3' hb4
  have hc4 := rkeep hc3 hb4
  have hbw4 := bstep hbw3 hb4
  clear ha3 hb3' hc3 hb4 hbw3
  have hrng := cmpE_range p q
  have e1 : IntKind.i64.wrap (-(cmpE p q)) = -(cmpE p q) := IntWalk.i64_in _ (by omega)
  have hz := cmpE_zero p q
  have htr := cmpE_trans p q r
  have HZ := Lib.hid hz
  have HT := Lib.hid htr
  have heq := run_eqE hp hq
  clear hrng hz htr
  have HN : Hid (decide (p = q) = (cmpE p q == 0)) := Lib.hid (by
    by_cases h : p = q
    · have := HZ.out.2 h
      rw [this]
      simp [h]
    · have : cmpE p q ≠ 0 := fun e => h (HZ.out.1 e)
      simp [h, this])
  rw [HN.out] at heq
  rcases Bool.eq_false_or_eq_true (decide (0 < cmpE p q)) with t1 | t1
  · go_wp2_with (first
    | (refine ld 31 (.tmp 3) rfl rfl rfl ha4 Try.underlying31 rfl (by rw [la]; kernel_rfl) ?_)
    | (refine ld 31 (.tmp 4) rfl rfl rfl hb4' Try.underlying31 rfl (by rw [lb]; kernel_rfl) ?_)
    | (refine ld 31 (.tmp 5) rfl rfl rfl hc4 Try.underlying31 rfl (by rw [lc]; kernel_rfl) ?_))
    go_ret
    exact ⟨rfl, hbw4⟩
  · rcases Bool.eq_false_or_eq_true (decide (0 < cmpE q r)) with t2 | t2
    · go_wp2_with (first
    | (refine ld 31 (.tmp 3) rfl rfl rfl ha4 Try.underlying31 rfl (by rw [la]; kernel_rfl) ?_)
    | (refine ld 31 (.tmp 4) rfl rfl rfl hb4' Try.underlying31 rfl (by rw [lb]; kernel_rfl) ?_)
    | (refine ld 31 (.tmp 5) rfl rfl rfl hc4 Try.underlying31 rfl (by rw [lc]; kernel_rfl) ?_))
      refine (compare_any q r w4 hq hr).mono ?_
      rintro e w5 ⟨rfl, hb5⟩
      have hbw5 := bstep hbw4 hb5
      go_wp2_with fail
      go_ret
      exact ⟨rfl, hbw5⟩
    · have t3 : decide (cmpE p r ≤ 0) = true := decide_eq_true (HT.out (by have := of_decide_eq_false t1; omega) (by have := of_decide_eq_false t2; omega))
      go_wp2_with (first
    | (refine ld 31 (.tmp 3) rfl rfl rfl ha4 Try.underlying31 rfl (by rw [la]; kernel_rfl) ?_)
    | (refine ld 31 (.tmp 4) rfl rfl rfl hb4' Try.underlying31 rfl (by rw [lb]; kernel_rfl) ?_)
    | (refine ld 31 (.tmp 5) rfl rfl rfl hc4 Try.underlying31 rfl (by rw [lc]; kernel_rfl) ?_))
      refine (compare_any q r w4 hq hr).mono ?_
      rintro e w5 ⟨rfl, hb5⟩
      have ha5 := rkeep ha4 hb5
      have hb5' := rkeep hb4' hb5
      have hc5 := rkeep hc4 hb5
      have hbw5 := bstep hbw4 hb5
      clear ha4 hb4' hc4 hb5 hbw4
      go_wp2_with (first
    | (refine ld 31 (.tmp 3) rfl rfl rfl ha5 Try.underlying31 rfl (by rw [la]; kernel_rfl) ?_)
    | (refine ld 31 (.tmp 4) rfl rfl rfl hb5' Try.underlying31 rfl (by rw [lb]; kernel_rfl) ?_)
    | (refine ld 31 (.tmp 5) rfl rfl rfl hc5 Try.underlying31 rfl (by rw [lc]; kernel_rfl) ?_))
      refine (compare_any p r w5 hp hr).mono ?_
      rintro e w6 ⟨rfl, hb6⟩
      have hbw6 := bstep hbw5 hb6
      go_wp2_with fail
      go_ret
      exact ⟨rfl, hbw6⟩
end Go.Proofs.Ytlhehnghplchfaa
