/- slices.Contains at entries. -/
import Derived.Test.YtlhehnghplchfaaRefHas
namespace Go.Proofs.Ytlhehnghplchfaa
open Go.RowKit
attribute [local irreducible] wpQuiet

set_option maxRecDepth 100000 in
set_option maxHeartbeats 2000000 in
theorem sl_index_any (va : Value) (l : List (List Int × Int)) (p : List Int × Int) (w : World) (hs : Sn w 33 va l.length (l.flatMap entP)) (hok : ∀ p ∈ l, EntOk p) (hl : l.length ≤ 1000) (hp : EntOk p) :
    Calls Try.prog 28 #[va, .agg (entP p).toArray] w fun e w' => (∃ n : Int, e = .returned (.int .i64 n) ∧ decide (0 ≤ n) = decide (p ∈ l)) ∧ Below w.heap.size w w' := by
  obtain ⟨A, cap, rfl, hcap, _, _⟩ := id hs
  have HS := Lib.hid hs
  have HOK := Lib.hid hok
  clear hs hok
  have hbA : Below w.heap.size w (w.alloc (.cells (entP p).toArray 31)) := (by repeat (first | exact Below.refl _ _ | assumption | refine bdrewN ?_ _ | refine Below.setCell ?_ (by first | exact Nat.le_refl _ | assumption | omega | (simp <;> omega)) _ | refine Below.alloc ?_ (by first | exact Nat.le_refl _ | assumption | omega | (simp <;> omega)) _))
  have hre := (Blk.new w 31 (entP p).toArray).range
  rw [List.toList_toArray] at hre
  have hpl := entP_length p hp
  go_enter Try.func28, Try.ntmps28
  go_wp2_with fail
  obtain ⟨w1, hw1⟩ : ∃ w1, w1 = w.alloc (.cells (entP p).toArray 31) := ⟨_, rfl⟩
  rw [← hw1] at hbA hre ⊢
  clear hw1
  have HRE := Lib.hid hre
  have hs1 := HS.out.below hbA
  have HPL := Lib.hid hpl
  clear hre hpl
  go_loopw [8] (fun i wr => ∃ k : Nat, k ≤ l.length ∧ i = .int .i64 k ∧ Hid (∀ q ∈ l.take k, q ≠ p) ∧ Below w1.heap.size w1 wr) (fun i _ => l.length - (intOf i).toNat)
  case atStart => exact ⟨0, Nat.zero_le _, rfl, Lib.hid (by simp), Below.refl _ _⟩
  case round =>
    obtain ⟨k, hk, rfl, hno, hb⟩ := hrel
    have hbW := bstep hbA hb
    by_cases hlt : k < l.length
    · obtain ⟨b, off, rfl, hr⟩ := at_elem entP EntOk 33 entP_length (hs1.below hb) HOK.out k hlt
      replace hr : wr.rangeAt b (off + k * 33) (entP l[k]) := hr
      have hpk := HOK.out l[k] (List.getElem_mem hlt)
      have hr2 : wr.rangeAt w.heap.size 0 (entP p) := fun j u hj => Below.cell' hb (HRE.out j u hj)
      have hlen := entP_length l[k] hpk
      have heq := run_eqE hp hpk
      have hud := Try.underlying31
      have hua : (Try.prog.info? 31).map (·.size) = some (entP l[k]).length := by rw [hlen]; kernel_rfl
      have hub : (Try.prog.info? 31).map (·.size) = some (entP p).length := by rw [HPL.out]; kernel_rfl
      have hi0 : (0 : Int) ≤ k := by omega
      have hi1 : (k : Int) < l.length := by omega
      have HR1 := Lib.hid hr
      have HR2 := Lib.hid hr2
      have HIN := Lib.hid (List.getElem_mem hlt)
      have hsnoc : Hid (l[k] ≠ p → ∀ q ∈ l.take (k + 1), q ≠ p) := Lib.hid (fun hf q hq => by
        rw [List.take_succ_eq_append_getElem hlt, List.mem_append] at hq
        rcases hq with hq | hq
        · exact hno.out q hq
        · obtain rfl : q = l[k] := by simpa using hq
          exact hf)
      clear hr hr2
      go_wp2_with fail
      rcases Bool.eq_false_or_eq_true (decide (p = l[k])) with t1 | t1
      all_goals
        rw [t1] at heq
        have HT := Lib.hid t1
        clear t1
        refine wp_region_quiet_lit (by kernel_rfl) (by kernel_rfl) ?_
        repeat (first
          | (refine qLoad 31 (.tmp 14) (by exact rfl) (by exact rfl) (by exact rfl) HR1.out hud rfl hua ?_; simp only [Act.put, List.setIfInBounds_toArray, List.set_cons_zero, List.set_cons_succ])
          | (refine qLoad 31 (.tmp 3) (by exact rfl) (by exact rfl) (by exact rfl) HR2.out hud rfl hub ?_; simp only [Act.put, List.setIfInBounds_toArray, List.set_cons_zero, List.set_cons_succ])
          | quiet_step (fail))
        refine wpQuiet_nil ?_
        intro w2 hw2
        obtain ⟨nq, hw3⟩ := hw2
        subst hw3
        go_wp2_with fail
      · go_ret
        refine ⟨⟨k, rfl, ?_⟩, bdrewN hbW _⟩
        have e1 : p = l[k] := of_decide_eq_true HT.out
        have e2 : p ∈ l := by rw [e1]; exact HIN.out
        simp [e2]
      · exact ⟨⟨k + 1, by omega, by go_num, Lib.hid (hsnoc.out fun e => of_decide_eq_false HT.out e.symm), bdrewN hb _⟩, by simp [intOf]; omega⟩
    · obtain rfl : k = l.length := by omega
      rw [List.take_length] at hno
      go_wp2_with fail
      go_ret
      refine ⟨⟨-1, rfl, ?_⟩, hbW⟩
      have e2 : ¬ p ∈ l := fun h => hno.out p h rfl
      simp [e2]

set_option maxHeartbeats 1000000 in
theorem contains_any (va : Value) (l : List (List Int × Int)) (p : List Int × Int) (w : World) (hs : Sn w 33 va l.length (l.flatMap entP)) (hok : ∀ p ∈ l, EntOk p) (hl : l.length ≤ 1000) (hp : EntOk p) :
    Calls Try.prog 24 #[va, .agg (entP p).toArray] w fun e w' => e = .returned (.bool (decide (p ∈ l))) ∧ Below w.heap.size w w' := by
  have HS := Lib.hid hs
  have HOK := Lib.hid hok
  clear hs hok
  have hbA : Below w.heap.size w (w.alloc (.cells (entP p).toArray 31)) := (by repeat (first | exact Below.refl _ _ | assumption | refine bdrewN ?_ _ | refine Below.setCell ?_ (by first | exact Nat.le_refl _ | assumption | omega | (simp <;> omega)) _ | refine Below.alloc ?_ (by first | exact Nat.le_refl _ | assumption | omega | (simp <;> omega)) _))
  have hre := (Blk.new w 31 (entP p).toArray).range
  rw [List.toList_toArray] at hre
  have hpl := entP_length p hp
  go_enter Try.func24, Try.ntmps24
  go_wp2_with (refine ld 31 _ rfl rfl rfl hre Try.underlying31 rfl (by rw [hpl]; kernel_rfl) ?_)
  refine (sl_index_any va l p _ (HS.out.below hbA) HOK.out hl hp).mono ?_
  rintro e w2 ⟨⟨n, rfl, hn⟩, hb⟩
  have hbW := bstep hbA hb
  go_wp2_with fail
  go_ret
  exact ⟨by rw [← hn]; rfl, hbW⟩
end Go.Proofs.Ytlhehnghplchfaa
