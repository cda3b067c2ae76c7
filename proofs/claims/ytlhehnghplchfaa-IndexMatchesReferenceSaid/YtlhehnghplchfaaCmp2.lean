/- index.Compare and its reference. -/
import Derived.Test.YtlhehnghplchfaaCmp
import Derived.Test.YtlhehnghplchfaaIdx3
import Derived.Sort.Grow
import Derived.Deep.QuietTactic
namespace Go.Proofs.Ytlhehnghplchfaa
open Go.RowKit

theorem ent_cell {w : World} {g : Nat} {T : TypeId} {p : List Int × Int} (h : Blk w g T (entP p).toArray) (hp : EntOk p) : w.rangeAt g 0 (u8s p.1) ∧ w.cell? ⟨g, 32, none⟩ = some (.int .i64 p.2) := by
  have h32 : (u8s p.1).length = 32 := by simp [u8s, hp.dig.len]
  constructor
  · intro j u hj
    rw [Nat.zero_add, h.cell j]
    have hlt := (List.getElem?_eq_some_iff.1 hj).1
    simp only [List.getElem?_toArray, entP, entC]
    rw [List.getElem?_append_left hlt]
    exact hj
  · rw [h.cell 32]
    simp only [List.getElem?_toArray, entP, entC]
    rw [List.getElem?_append_right (by omega), h32]
    rfl

theorem calls_at {P : Program} {f : FuncId} {args : Array Value} {Q : Ending → World → Prop} (w' : World) (h : ∀ w1, w1 = w' → Calls P f args w1 Q) : Calls P f args w' Q := h _ rfl

set_option maxHeartbeats 1000000 in
theorem compare_grow (p q : List Int × Int) (w : World) (hp : EntOk p) (hq : EntOk q) :
    Calls Try.prog 18 #[.agg (entP p).toArray, .agg (entP q).toArray] w fun e w' => e = .returned (.int .i64 (cmpE p q)) ∧ ∃ (n : Nat) (os : Array Obj), w' = Sort.grow (w.drewN n) os := by
  have hbA : Below w.heap.size w ((w.alloc (.cells (entP p).toArray 31)).alloc (.cells (entP q).toArray 31)) := (by repeat (first | exact Below.refl _ _ | assumption | refine bdrewN ?_ _ | refine Below.setCell ?_ (by first | exact Nat.le_refl _ | assumption | omega | (simp <;> omega)) _ | refine Below.alloc ?_ (by first | exact Nat.le_refl _ | assumption | omega | (simp <;> omega)) _))
  have hB1 := (Blk.new w 31 (entP p).toArray).alloc (.cells (entP q).toArray 31)
  have hB2 := Blk.newAt (w.alloc (.cells (entP p).toArray 31)) 31 (entP q).toArray (w.heap.size + 1) (by simp)
  obtain ⟨hr1, hc1⟩ := ent_cell hB1 hp
  obtain ⟨hr2, hc2⟩ := ent_cell hB2 hq
  have l1 := entP_length p hp
  have l2 := entP_length q hq
  go_enter Try.func18, Try.ntmps18
  have HR1 := Lib.hid hr1
  have HR2 := Lib.hid hr2
  clear hB1 hB2 hr1 hr2
  rcases Bool.eq_false_or_eq_true (cmpI p.2 q.2 == 0) with t1 | t1
  all_goals
    go_wp2_with fail
    refine calls_at ((w.alloc (.cells (entP p).toArray 31)).alloc (.cells (entP q).toArray 31)) (fun w1 hw1 => ?_)
    rw [← hw1] at hbA HR1 HR2
    have HW : Hid (w1 = Sort.grow (w.drewN 0) #[.cells (entP p).toArray 31, .cells (entP q).toArray 31]) := Lib.hid (by rw [hw1, Sort.alloc_eq_grow, Sort.alloc_eq_grow, Sort.grow_grow]; rfl)
    clear hw1 hc1 hc2
    refine (cmp_Compare p.2 q.2 w1).mono ?_
    rintro e w2 ⟨rfl, rfl⟩
    go_wp2_with fail
  · go_region_held3 (fun w' => w'.rangeAt w.heap.size 0 (u8s p.1) ∧ w'.rangeAt (w.heap.size + 1) 0 (u8s q.1) ∧ Below w.heap.size w w')
      (first
        | (refine ⟨HR1.out, HR2.out, hbA.drew⟩)
        | (go_split_ands; exact ⟨by assumption, by assumption, by assumption⟩))
      ((go_at_call 27; refine (bytes_Compare _ _ _ _ p.1 q.1 _ hp.dig hq.dig (by go_split_ands; assumption) (by go_split_ands; assumption)).mono ?_; rintro e wX ⟨rfl, rfl⟩))
    all_goals
      go_wp2_with fail
      go_ret
      have u1 : cmpI p.2 q.2 = 0 := by simpa using t1
      refine ⟨?_, 1, _, by rw [HW.out]; rfl⟩
      unfold cmpE
      rw [if_neg (by rw [u1]; simp)]
      rfl
  · go_ret
    have u1 : cmpI p.2 q.2 ≠ 0 := by simpa using t1
    refine ⟨?_, 0, _, HW.out⟩
    unfold cmpE
    rw [if_pos u1]
    rfl

theorem below_grow {w : World} (d : Nat) (os : Array Obj) : Below w.heap.size w (Sort.grow (w.drewN d) os) :=
  ⟨rfl, rfl, rfl, by simp [Sort.grow], fun k hk => by
    show ((w.drewN d).heap ++ os)[k]? = _
    rw [Array.getElem?_append_left (show k < (w.drewN d).heap.size from hk)]; rfl⟩
theorem compare_any (p q : List Int × Int) (w : World) (hp : EntOk p) (hq : EntOk q) :
    Calls Try.prog 18 #[.agg (entP p).toArray, .agg (entP q).toArray] w fun e w' => e = .returned (.int .i64 (cmpE p q)) ∧ Below w.heap.size w w' := by
  refine (compare_grow p q w hp hq).mono ?_
  rintro e w' ⟨rfl, n, os, rfl⟩
  exact ⟨rfl, below_grow n os⟩

set_option maxHeartbeats 1000000 in
theorem ref_compare_any (p q : List Int × Int) (w : World) (hp : EntOk p) (hq : EntOk q) :
    Calls Try.prog 19 #[.agg (entP p).toArray, .agg (entP q).toArray] w fun e w' => e = .returned (.int .i64 (cmpE p q)) ∧ Below w.heap.size w w' := by
  have hbA : Below w.heap.size w ((w.alloc (.cells (entP p).toArray 31)).alloc (.cells (entP q).toArray 31)) := (by repeat (first | exact Below.refl _ _ | assumption | refine bdrewN ?_ _ | refine Below.setCell ?_ (by first | exact Nat.le_refl _ | assumption | omega | (simp <;> omega)) _ | refine Below.alloc ?_ (by first | exact Nat.le_refl _ | assumption | omega | (simp <;> omega)) _))
  have hB1 := (Blk.new w 31 (entP p).toArray).alloc (.cells (entP q).toArray 31)
  have hB2 := Blk.newAt (w.alloc (.cells (entP p).toArray 31)) 31 (entP q).toArray (w.heap.size + 1) (by simp)
  obtain ⟨hr1, hc1⟩ := ent_cell hB1 hp
  obtain ⟨hr2, hc2⟩ := ent_cell hB2 hq
  have HR1 := Lib.hid hr1
  have HR2 := Lib.hid hr2
  clear hB1 hB2 hr1 hr2
  have hdp := hp.dig.len
  have hdq := hq.dig.len
  rcases Bool.eq_false_or_eq_true (p.2 != q.2) with t1 | t1
  · have u1 : p.2 ≠ q.2 := by simpa using t1
    rcases Bool.eq_false_or_eq_true (decide (p.2 < q.2)) with t2 | t2
    all_goals
      go_enter Try.func19, Try.ntmps19
      go_wp2_with fail
      go_ret
      refine ⟨?_, hbA⟩
      unfold cmpE cmpI
    · have := of_decide_eq_true t2
      simp [this]
    · have := of_decide_eq_false t2
      have h3 : q.2 < p.2 := by omega
      simp [this, h3]
  · go_enter Try.func19, Try.ntmps19
    go_wp2_with fail
    obtain ⟨w1, hw1⟩ : ∃ w1, w1 = (w.alloc (.cells (entP p).toArray 31)).alloc (.cells (entP q).toArray 31) := ⟨_, rfl⟩
    rw [← hw1] at hbA HR1 HR2 ⊢
    clear hw1 hc1 hc2
    have u1 : p.2 = q.2 := by simpa using t1
    have HE : Hid (cmpE p q = cmpD p.1 q.1) := Lib.hid (by unfold cmpE cmpI; simp [u1])
    clear u1 t1
    go_loopw [5] (fun i wr => ∃ k : Nat, k ≤ 32 ∧ i = .int .i64 k ∧ Hid (cmpD p.1 q.1 = cmpD (p.1.drop k) (q.1.drop k)) ∧ Below w1.heap.size w1 wr) (fun i _ => 32 - (intOf i).toNat)
    case atStart => exact ⟨0, Nat.zero_le _, rfl, Lib.hid rfl, Below.refl _ _⟩
    case round =>
      obtain ⟨k, hk, rfl, hD, hb⟩ := hrel
      have hbW := bstep hbA hb
      rcases Nat.lt_or_ge k 32 with hlt | hge
      · have hk1 : k < p.1.length := by omega
        have hk2 : k < q.1.length := by omega
        have c1 : wr.cell? ⟨w.heap.size, k, none⟩ = some (.int .u8 p.1[k]) := Below.cell' hb (by have := HR1.out k (.int .u8 p.1[k]) (by simp [u8s, hk1]); simpa using this)
        have c2 : wr.cell? ⟨w.heap.size + 1, k, none⟩ = some (.int .u8 q.1[k]) := Below.cell' hb (by have := HR2.out k (.int .u8 q.1[k]) (by simp [u8s, hk2]); simpa using this)
        have hstep : Hid (cmpD p.1 q.1 = if p.1[k] < q.1[k] then -1 else if q.1[k] < p.1[k] then 1 else cmpD (p.1.drop (k + 1)) (q.1.drop (k + 1))) := Lib.hid (by
          rw [hD.out, List.drop_eq_getElem_cons hk1, List.drop_eq_getElem_cons hk2]
          rfl)
        obtain ⟨x, hx⟩ : ∃ x, x = p.1[k] := ⟨_, rfl⟩
        obtain ⟨y, hy⟩ : ∃ y, y = q.1[k] := ⟨_, rfl⟩
        rw [← hx] at c1 hstep
        rw [← hy] at c2 hstep
        clear hx hy
        have hi0 : (0 : Int) ≤ k := by omega
        have hi1 : (k : Int) < 32 := by omega
        rcases Bool.eq_false_or_eq_true (decide (x < y)) with t1 | t1
        · go_wp2_with fail
          go_quiet (fail)
          go_wp2_with fail
          go_ret
          refine ⟨?_, bdrewN hbW _⟩
          rw [HE.out, hstep.out, if_pos (of_decide_eq_true t1)]
          rfl
        rcases Bool.eq_false_or_eq_true (decide (y < x)) with t2 | t2
        · go_wp2_with fail
          go_quiet (fail)
          go_wp2_with fail
          go_quiet (fail)
          go_wp2_with fail
          go_ret
          refine ⟨?_, (by repeat (first | exact Below.refl _ _ | assumption | refine bdrewN ?_ _ | refine Below.setCell ?_ (by first | exact Nat.le_refl _ | assumption | omega | (simp <;> omega)) _ | refine Below.alloc ?_ (by first | exact Nat.le_refl _ | assumption | omega | (simp <;> omega)) _))⟩
          rw [HE.out, hstep.out, if_neg (of_decide_eq_false t1), if_pos (of_decide_eq_true t2)]
          rfl
        · go_wp2_with fail
          go_quiet (fail)
          go_wp2_with fail
          go_quiet (fail)
          go_wp2_with fail
          refine ⟨⟨k + 1, by omega, by go_num, Lib.hid ?_, (by repeat (first | exact Below.refl _ _ | assumption | refine bdrewN ?_ _ | refine Below.setCell ?_ (by first | exact Nat.le_refl _ | assumption | omega | (simp <;> omega)) _ | refine Below.alloc ?_ (by first | exact Nat.le_refl _ | assumption | omega | (simp <;> omega)) _))⟩, by simp [intOf]; omega⟩
          rw [hstep.out, if_neg (of_decide_eq_false t1), if_neg (of_decide_eq_false t2)]
      · obtain rfl : k = 32 := by omega
        go_wp2_with fail
        go_ret
        refine ⟨?_, hbW⟩
        rw [HE.out, hD.out, List.drop_of_length_le (by omega), List.drop_of_length_le (by omega)]
        rfl
end Go.Proofs.Ytlhehnghplchfaa
