/- The reference's counts, and the law's own 'given', 'number'. -/
import Derived.Test.YtdidohfdedkfaaaDoorTallyOf
import Derived.Test.YtdidohfdedkfaaaDoorBlk
import Derived.Deep.RegionHeld3
namespace Go.Proofs.YtdidohfdedkfaaaDoor
open Go.RowKit

def nCode (l : List RowD) (c : Int) : Nat := (l.filter fun r => r.kind == 3 && r.code == c).length
theorem nCode_snoc (l : List RowD) (c : Int) (k : Nat) (h : k < l.length) : nCode (l.take (k + 1)) c = nCode (l.take k) c + (if l[k].kind == 3 && l[k].code == c then 1 else 0) := by
  unfold nCode
  rw [List.take_succ_eq_append_getElem h, List.filter_append, List.length_append]
  congr 1; simp only [List.filter_cons, List.filter_nil]; split <;> rfl
theorem nCode_le (l : List RowD) (c : Int) : nCode l c ≤ l.length := List.length_filter_le _ _

set_option maxHeartbeats 1000000 in
theorem count_any (v : Value) (l : List RowD) (c : Int) (w : World) (hs : Sn w 36 v l.length (l.flatMap rowC)) (hok : ∀ r ∈ l, RowOk r) (hl : l.length ≤ 1000) :
    Calls Tryd.prog 10 #[v, .int .i64 c] w fun e w' => e = .returned (.int .i64 (nCode l c)) ∧ w = w' := by
  obtain ⟨A, cap, rfl, hcap, _, _⟩ := id hs
  go_enter Tryd.func10, Tryd.ntmps10
  go_wp2
  go_loop [5, 6] (fun m i => ∃ k : Nat, k ≤ l.length ∧ i = .int .i64 k ∧ m = .int .i64 (nCode (l.take k) c)) (fun _ i => l.length - (intOf i).toNat)
  case atStart => exact ⟨0, Nat.zero_le _, rfl, rfl⟩
  case round =>
    obtain ⟨k, hk, rfl, rfl⟩ := hrel
    by_cases hlt : k < l.length
    · obtain ⟨b, off, rfl, hr⟩ := at_row hs hok k hlt
      have hc0 : w.cell? ⟨b, off + k * 36, none⟩ = some (.int .i64 l[k].kind) := hr 0 _ rfl
      have hc1 : w.cell? ⟨b, off + k * 36 + 1, none⟩ = some (.int .i64 l[k].code) := hr 1 _ rfl
      have EA := Lib.hid (nCode_snoc l c k hlt)
      have ba := nCode_le (l.take k) c
      have bl : (l.take k).length ≤ k := List.length_take_le _ _
      rcases Bool.eq_false_or_eq_true (l[k].kind == 3) with t1 | t1 <;> rcases Bool.eq_false_or_eq_true (l[k].code == c) with t2 | t2
      all_goals go_wp2
      all_goals exact ⟨⟨k + 1, by omega, by go_num, by rw [EA.out]; simp [t1, t2]⟩, by simp [intOf]; omega⟩
    · go_wp2
      go_ret
      have : k = l.length := by omega
      subst this
      rw [List.take_length]
      exact ⟨rfl, rfl⟩

set_option maxHeartbeats 1000000 in
theorem ref_of_any (v : Value) (l : List RowD) (w : World) (hs : Sn w 36 v l.length (l.flatMap rowC)) (hok : ∀ r ∈ l, RowOk r) (hl : l.length ≤ 1000) :
    Calls Tryd.prog 11 #[v] w fun e w' => e = .returned (.agg #[.int .i64 (nAcc l), .int .i64 (nOth l)]) ∧ Below w.heap.size w w' := by
  obtain ⟨A, cap, rfl, hcap, _, _⟩ := id hs
  go_enter Tryd.func11, Tryd.ntmps11
  go_wp2
  go_loopw [4] (fun i wr => ∃ k : Nat, k ≤ l.length ∧ i = .int .i64 k ∧ Below w.heap.size w wr ∧ Blk wr (w.heap.size + 1) 30 #[.int .i64 (nAcc (l.take k)), .int .i64 (nOth (l.take k))] ∧ (∃ x y, Blk wr w.heap.size 30 #[x, y])) (fun i _ => l.length - (intOf i).toNat)
  case atStart =>
    refine ⟨0, Nat.zero_le _, rfl, (by repeat (first | exact Below.refl _ _ | assumption | refine bdrewN ?_ _ | refine Below.setCell ?_ (by first | exact Nat.le_refl _ | assumption | omega | (simp <;> omega)) _ | refine Below.alloc ?_ (by first | exact Nat.le_refl _ | assumption | omega | (simp <;> omega)) _)), Blk.newAt _ _ _ _ (by simp), ⟨_, _, (Blk.new _ _ _).alloc _⟩⟩
  case round =>
    obtain ⟨k, hk, rfl, hb, hB, x, y, hB0⟩ := hrel
    have b0 := hB.cell 0
    have b1 := hB.cell 1
    have f0 := hB.frozen 0
    have f1 := hB.frozen 1
    have d0 := hB0.cell 0
    have d1 := hB0.cell 1
    have g0 := hB0.frozen 0
    have g1 := hB0.frozen 1
    simp at b0 b1 d0 d1
    by_cases hlt : k < l.length
    · obtain ⟨b, off, rfl, hr⟩ := at_row (hs.below hb) hok k hlt
      have hc0 : wr.cell? ⟨b, off + k * 36, none⟩ = some (.int .i64 l[k].kind) := hr 0 _ rfl
      have hc1 : wr.cell? ⟨b, off + k * 36 + 1, none⟩ = some (.int .i64 l[k].code) := hr 1 _ rfl
      obtain ⟨ea, eo⟩ := nAcc_snoc l k hlt
      have ba := nAcc_le (l.take k)
      have bl : (l.take k).length ≤ k := List.length_take_le _ _
      have EA := Lib.hid ea
      have EO := Lib.hid eo
      clear ea eo
      rcases Bool.eq_false_or_eq_true (l[k].kind == 3) with t1 | t1 <;> rcases Bool.eq_false_or_eq_true (l[k].code == 10) with t2 | t2
      all_goals go_wp2
      · refine ⟨⟨k + 1, by omega, by go_num, hb.setCell (by simp) _, ?_, x, y, hB0.far (by simp) _⟩, by simp [intOf]; omega⟩
        rw [EA.out, EO.out]
        have := hB.set_ 0 (.int .i64 ((nAcc (l.take k) : Int) + 1))
        simpa [isAcc, isVerify, t1, t2] using this
      · refine ⟨⟨k + 1, by omega, by go_num, hb.setCell (by simp) _, ?_, x, y, hB0.far (by simp) _⟩, by simp [intOf]; omega⟩
        rw [EA.out, EO.out]
        have := hB.set_ 1 (.int .i64 ((nOth (l.take k) : Int) + 1))
        simpa [isAcc, isVerify, t1, t2] using this
      all_goals
        refine ⟨⟨k + 1, by omega, by go_num, hb, ?_, x, y, hB0⟩, by simp [intOf]; omega⟩
        rw [EA.out, EO.out]
        simpa [isAcc, isVerify, t1, t2] using hB
    · go_wp2
      have : k = l.length := by omega
      subst this
      rw [List.take_length] at *
      refine bodyPost_ret (results_cell_row rfl _ _ w.heap.size 30 _ (0, 0) _ rfl ((hB0.set_ 0 _).set_ 1 _) Tryd.underlying30 rfl (by kernel_rfl)) rfl ⟨rfl, ?_⟩
      exact (hb.setCell (Nat.le_refl _) _).setCell (Nat.le_refl _) _
end Go.Proofs.YtdidohfdedkfaaaDoor
