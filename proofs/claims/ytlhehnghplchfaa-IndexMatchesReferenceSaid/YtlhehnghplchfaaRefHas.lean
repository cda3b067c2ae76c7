/- tollref20.Has. -/
import Derived.Test.YtlhehnghplchfaaRefLive
import Derived.Test.YtlhehnghplchfaaRefPut
namespace Go.Proofs.Ytlhehnghplchfaa
open Go.RowKit
attribute [local irreducible] wpQuiet

theorem ent_parts {w : World} {b off : Nat} {p : List Int × Int} (hr : w.rangeAt b off (entP p)) (hp : EntOk p) : w.rangeAt b off (u8s p.1) ∧ w.cell? ⟨b, off + 32, none⟩ = some (.int .i64 p.2) := by
  have h32 : (u8s p.1).length = 32 := by simp [u8s, hp.dig.len]
  constructor
  · intro j u hj
    refine hr j u ?_
    have hlt := (List.getElem?_eq_some_iff.1 hj).1
    simp only [entP, entC]
    rw [List.getElem?_append_left hlt]
    exact hj
  · refine hr 32 _ ?_
    simp only [entP, entC]
    rw [List.getElem?_append_right (by omega), h32]
    rfl

set_option maxRecDepth 100000 in
set_option maxHeartbeats 2000000 in
theorem ref_has_any (va : Value) (l : List (List Int × Int)) (d : List Int) (now : Int) (w : World) (hs : Sn w 33 va l.length (l.flatMap entP)) (hok : ∀ p ∈ l, EntOk p) (hl : l.length ≤ 1000) (hd : DigOk d) :
    Calls Try.prog 23 #[va, .agg (u8s d).toArray, .int .i64 now] w fun e w' => e = .returned (.bool (l.any fun p => decide (p.1 = d) && decide (now ≤ p.2))) ∧ Below w.heap.size w w' := by
  obtain ⟨A, cap, rfl, hcap, _, _⟩ := id hs
  have HS := Lib.hid hs
  have HOK := Lib.hid hok
  clear hs hok
  have hbA : Below w.heap.size w (w.alloc (.cells (u8s d).toArray 26)) := (by repeat (first | exact Below.refl _ _ | assumption | refine bdrewN ?_ _ | refine Below.setCell ?_ (by first | exact Nat.le_refl _ | assumption | omega | (simp <;> omega)) _ | refine Below.alloc ?_ (by first | exact Nat.le_refl _ | assumption | omega | (simp <;> omega)) _))
  have hrd := (Blk.new w 26 (u8s d).toArray).range
  have hd32 : (u8s d).length = 32 := by simp [u8s, hd.len]
  rw [List.toList_toArray] at hrd
  go_enter Try.func23, Try.ntmps23
  go_wp2_with fail
  obtain ⟨w1, hw1⟩ : ∃ w1, w1 = w.alloc (.cells (u8s d).toArray 26) := ⟨_, rfl⟩
  rw [← hw1] at hbA hrd ⊢
  clear hw1
  have HRD := Lib.hid hrd
  have hs1 := HS.out.below hbA
  clear hrd
  go_loopw [7] (fun i wr => ∃ k : Nat, k ≤ l.length ∧ i = .int .i64 k ∧ Hid (∀ p ∈ l.take k, (decide (p.1 = d) && decide (now ≤ p.2)) = false) ∧ Below w1.heap.size w1 wr) (fun i _ => l.length - (intOf i).toNat)
  case atStart => exact ⟨0, Nat.zero_le _, rfl, Lib.hid (by simp), Below.refl _ _⟩
  case round =>
    obtain ⟨k, hk, rfl, hno, hb⟩ := hrel
    have hbW := bstep hbA hb
    by_cases hlt : k < l.length
    · obtain ⟨b, off, rfl, hr⟩ := at_elem entP EntOk 33 entP_length (hs1.below hb) HOK.out k hlt
      replace hr : wr.rangeAt b (off + k * 33) (entP l[k]) := hr
      have hpk := HOK.out l[k] (List.getElem_mem hlt)
      obtain ⟨hr1, htc⟩ := ent_parts hr hpk
      have hr2 : wr.rangeAt w.heap.size 0 (u8s d) := fun j u hj => Below.cell' hb (HRD.out j u hj)
      have h32 : (u8s l[k].1).length = 32 := by simp [u8s, hpk.dig.len]
      have heq := run_eqD hpk.dig hd
      have hud := Try.underlying26
      have hua : (Try.prog.info? 26).map (·.size) = some (u8s l[k].1).length := by rw [h32]; kernel_rfl
      have hub : (Try.prog.info? 26).map (·.size) = some (u8s d).length := by rw [hd32]; kernel_rfl
      have hi0 : (0 : Int) ≤ k := by omega
      have hi1 : (k : Int) < l.length := by omega
      have HR1 := Lib.hid hr1
      have HR2 := Lib.hid hr2
      have HIN := Lib.hid (List.getElem_mem hlt)
      have hsnoc : Hid ((decide (l[k].1 = d) && decide (now ≤ l[k].2)) = false → ∀ p ∈ l.take (k + 1), (decide (p.1 = d) && decide (now ≤ p.2)) = false) := Lib.hid (fun hf p hp => by
        rw [List.take_succ_eq_append_getElem hlt, List.mem_append] at hp
        rcases hp with hp | hp
        · exact hno.out p hp
        · obtain rfl : p = l[k] := by simpa using hp
          exact hf)
      clear hr hr1 hr2
      go_wp2_with fail
      rcases Bool.eq_false_or_eq_true (decide (l[k].1 = d)) with t1 | t1 <;> rcases Bool.eq_false_or_eq_true (decide (now ≤ l[k].2)) with t2 | t2
      all_goals
        rw [t1] at heq
        refine wp_region_quiet_lit (by kernel_rfl) (by kernel_rfl) ?_
        repeat (first
          | (refine qLoad 26 (.tmp 17) (by exact rfl) (by exact rfl) (by exact rfl) HR1.out hud rfl hua ?_; simp only [Act.put, List.setIfInBounds_toArray, List.set_cons_zero, List.set_cons_succ])
          | (refine qLoad 26 (.tmp 4) (by exact rfl) (by exact rfl) (by exact rfl) HR2.out hud rfl hub ?_; simp only [Act.put, List.setIfInBounds_toArray, List.set_cons_zero, List.set_cons_succ])
          | quiet_step (fail))
        refine wpQuiet_nil ?_
        intro w2 hw2
        obtain ⟨nq, hw3⟩ := hw2
        subst hw3
        go_wp2_with fail
      · go_ret
        refine ⟨?_, bdrewN hbW _⟩
        have : (l.any fun p => decide (p.1 = d) && decide (now ≤ p.2)) = true := List.any_eq_true.2 ⟨l[k], HIN.out, by rw [t1, t2]; rfl⟩
        rw [this]
        rfl
      all_goals
        rw [t1, t2] at hsnoc
        exact ⟨⟨k + 1, by omega, by go_num, Lib.hid (hsnoc.out rfl), bdrewN hb _⟩, by simp [intOf]; omega⟩
    · obtain rfl : k = l.length := by omega
      rw [List.take_length] at hno
      go_wp2_with fail
      go_ret
      refine ⟨?_, hbW⟩
      have : (l.any fun p => decide (p.1 = d) && decide (now ≤ p.2)) = false := List.any_eq_false.2 fun p hp => by rw [hno.out p hp]; simp
      rw [this]
      rfl
end Go.Proofs.Ytlhehnghplchfaa
