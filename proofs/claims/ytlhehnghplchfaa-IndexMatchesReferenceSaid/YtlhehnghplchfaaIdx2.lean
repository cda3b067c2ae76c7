/- The index: get, has, count, and what a nil index answers. -/
import Derived.Test.YtlhehnghplchfaaIdx
namespace Go.Proofs.Ytlhehnghplchfaa
open Go.RowKit

set_option maxHeartbeats 1000000 in
theorem get_any (g b n c : Nat) (f : List Int → Option Int) (d : List Int) (w : World) (h : IX w g b n f c) (hd : DigOk d) :
    Calls Try.prog 20 #[.pointer (some ⟨g, 0, none⟩), .agg (u8s d).toArray] w fun e w' => e = .returned (.tuple #[.int .i64 ((f d).getD 0), .bool (f d).isSome]) ∧ Below w.heap.size w w' := by
  obtain ⟨hg, hgb, hm⟩ := h
  have hlook := fun (w' : World) (hw' : w'.heap[b]? = w.heap[b]?) => (hm.of_block hw').look (tM := 53) Try.underlying53 hd
  have hbA : Below w.heap.size w (w.alloc (.cells (u8s d).toArray 26)) := (by repeat (first | exact Below.refl _ _ | assumption | refine bdrewN ?_ _ | refine Below.setCell ?_ (by first | exact Nat.le_refl _ | assumption | omega | (simp <;> omega)) _ | refine Below.alloc ?_ (by first | exact Nat.le_refl _ | assumption | omega | (simp <;> omega)) _))
  have hrd := (Blk.new w 26 (u8s d).toArray).range
  have h32 : (u8s d).length = 32 := by simp [u8s, hd.len]
  have hg1 := Below.cell' hbA hg
  have hh1 := hbA.block b hm.lt
  rw [List.toList_toArray] at hrd
  go_enter Try.func20, Try.ntmps20
  go_wp2_with (refine ld 26 _ rfl rfl rfl hrd Try.underlying26 rfl (by rw [h32]; kernel_rfl) ?_)
  obtain ⟨w1, hw1⟩ : ∃ w1, w1 = w.alloc (.cells (u8s d).toArray 26) := ⟨_, rfl⟩
  rw [← hw1] at hbA hrd hg1 hh1 ⊢
  clear hw1
  have hud := Try.underlying26
  have hui : (Try.prog.info? 26).map (·.size) = some (u8s d).length := by rw [h32]; kernel_rfl
  go_region_held3 (fun w' => w'.cell? ⟨g, 0, none⟩ = some (.map (some b)) ∧ w'.rangeAt w.heap.size 0 (u8s d) ∧ w'.heap[b]? = w.heap[b]? ∧ Below w.heap.size w w')
    (first
      | (refine ⟨by assumption, by assumption, by assumption, hbA.drew⟩)
      | (go_split_ands; exact ⟨by assumption, by assumption, by assumption, by assumption⟩)
      | go_keep)
    (fail)
  go_wp2_with fail
  go_ret2
  exact ⟨rfl, by go_split_ands; assumption⟩

set_option maxHeartbeats 1000000 in
theorem has_any (g b n c : Nat) (f : List Int → Option Int) (d : List Int) (now : Int) (w : World) (h : IX w g b n f c) (hd : DigOk d) :
    Calls Try.prog 16 #[.pointer (some ⟨g, 0, none⟩), .agg (u8s d).toArray, .int .i64 now] w fun e w' => e = .returned (.bool ((f d).isSome && decide (now ≤ (f d).getD 0))) ∧ Below w.heap.size w w' := by
  have hbA : Below w.heap.size w (w.alloc (.cells (u8s d).toArray 26)) := (by repeat (first | exact Below.refl _ _ | assumption | refine bdrewN ?_ _ | refine Below.setCell ?_ (by first | exact Nat.le_refl _ | assumption | omega | (simp <;> omega)) _ | refine Below.alloc ?_ (by first | exact Nat.le_refl _ | assumption | omega | (simp <;> omega)) _))
  have hrd := (Blk.new w 26 (u8s d).toArray).range
  have h32 : (u8s d).length = 32 := by simp [u8s, hd.len]
  rw [List.toList_toArray] at hrd
  go_enter Try.func16, Try.ntmps16
  go_wp2_with (refine ld 26 _ rfl rfl rfl hrd Try.underlying26 rfl (by rw [h32]; kernel_rfl) ?_)
  refine (get_any g b n c f d _ (h.keep hbA) hd).mono ?_
  rintro e w1 ⟨rfl, hb0⟩
  have hb1 := bstep hbA hb0
  clear h
  rcases Bool.eq_false_or_eq_true (f d).isSome with t1 | t1 <;> rcases Bool.eq_false_or_eq_true (decide (now ≤ (f d).getD 0)) with t2 | t2
  all_goals
    go_wp2_with fail
    go_ret
    exact ⟨by rw [t1, t2]; rfl, hb1⟩

set_option maxHeartbeats 1000000 in
theorem count_any (g b n c : Nat) (f : List Int → Option Int) (w : World) (h : IX w g b n f c) :
    Calls Try.prog 17 #[.pointer (some ⟨g, 0, none⟩)] w fun e w' => e = .returned (.int .i64 c) ∧ w = w' := by
  obtain ⟨hg, hgb, hm⟩ := h
  go_enter Try.func17, Try.ntmps17
  go_wp2_with (at_len; refine dLen Try.underlying53 rfl _ rfl rfl hm ?_)
  go_ret
  exact ⟨rfl, rfl⟩

theorem nil_put (cs : Array Value) (w : World) :
    Calls Try.prog 22 #[.pointer none, .agg cs] w fun e w' => e = .returned (.bool false) ∧ Below w.heap.size w w' := by
  go_enter Try.func22, Try.ntmps22
  go_wp2_with fail
  go_ret
  exact ⟨rfl, (by repeat (first | exact Below.refl _ _ | assumption | refine bdrewN ?_ _ | refine Below.setCell ?_ (by first | exact Nat.le_refl _ | assumption | omega | (simp <;> omega)) _ | refine Below.alloc ?_ (by first | exact Nat.le_refl _ | assumption | omega | (simp <;> omega)) _))⟩
theorem nil_count (w : World) :
    Calls Try.prog 17 #[.pointer none] w fun e w' => e = .returned (.int .i64 0) ∧ w = w' := by
  go_enter Try.func17, Try.ntmps17
  go_wp2_with fail
  go_ret
  exact ⟨rfl, rfl⟩
theorem nil_drop (now : Int) (w : World) :
    Calls Try.prog 15 #[.pointer none, .int .i64 now] w fun e w' => e = .returned (.int .i64 0) ∧ w = w' := by
  go_enter Try.func15, Try.ntmps15
  go_wp2_with fail
  go_ret
  exact ⟨rfl, rfl⟩
end Go.Proofs.Ytlhehnghplchfaa
