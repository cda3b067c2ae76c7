/- audit.Clean. -/
import Derived.Test.YtmhckcghfikeiaaDoorFinds3
namespace Go.Proofs.YtmhckcghfikeiaaDoor
open Go.RowKit
attribute [local irreducible] wpQuiet wpAnyH
attribute [local go_sem] Oper.semAt_some
set_option linter.unusedSimpArgs false

/-- What stands between two rounds of Clean. -/
def FC (w0 : World) (z : Bool) (T : Terr) (w : World) : Prop :=
  Blk w w0.heap.size 4 #[.bool z] ∧ Below w0.heap.size w0 w ∧ ∀ x, T x ↔ x = w0.heap.size
theorem FC.stab {w0 : World} {z : Bool} {T : Terr} {N : Nat} {A B : World} (hN : w0.heap.size + 1 ≤ N) (h : FC w0 z T A) (hl : Lies (fun k => T k ∨ (k < N ∧ ¬ False)) A B) : FC w0 z T B :=
  ⟨hl.blk h.1 (.inr ⟨by omega, id⟩), lies_below h.2.1 (by omega) hl, h.2.2⟩

set_option maxRecDepth 100000 in
set_option maxHeartbeats 4000000 in
theorem clean_any (skew : Int) (l : List RowD) (A : Option Addr) (cap : Nat) (w : World) (hs : Sn w 36 (.slice A l.length cap) l.length (l.flatMap rowC)) (hok : ∀ r ∈ l, RowOk r) (hsk : isI64 skew) (hl : l.length ≤ 1000) (hA : InHeap w A) :
    Calls Tryd.prog 12 #[.int .i64 skew, .slice A l.length cap] w fun e w' => e = .returned (.bool (findL skew l).isEmpty) ∧ Below w.heap.size w w' := by
  have HS := Lib.hid hs
  have HOK := Lib.hid hok
  have HA := Lib.hid hA
  clear hs hok hA
  refine calls_marks Tryd.func12 rfl ?_
  simp only [Tryd.ntmps12, List.size_toArray, List.length_cons, List.length_nil, Nat.reduceAdd, Nat.reduceSub, Array.replicate_succ, Array.replicate_zero, List.push_toArray, List.append_toArray, List.nil_append, List.cons_append]
  refine wpIn_wide.2 ?_
  obtain ⟨w1, hw1⟩ : ∃ w1, w1 = w.alloc (.cells #[.bool false] 4) := ⟨_, rfl⟩
  have hb1 : Below w.heap.size w w1 := by rw [hw1]; exact bel1 _ _
  have hq1 : FC w false (fun x => x = w.heap.size) w1 := ⟨by rw [hw1]; exact Blk.new _ _ _, hb1, fun _ => Iff.rfl⟩
  have hz1 : w1.heap.size = w.heap.size + 1 := by rw [hw1]; simp
  go_wp2_with fail
  rw [← hw1]
  clear hw1
  refine (findings_any skew A l.length cap _).mono ?_
  rintro e w2 ⟨g1, g2, rfl, hc2, hb2, hg1, hg2⟩
  have hb02 := bstep hb1 hb2
  have HQ2 : Hid (FC w false (fun x => x = w.heap.size) w2) := Lib.hid (hq1.stab (N := w1.heap.size) (by omega) (Lies.of_below hb2))
  have HS2 := Lib.hid (HS.out.below hb02)
  have hsz2 := hb2.size
  have HZ := Lib.hid (show w.heap.size + 1 ≤ w2.heap.size ∧ w.heap.size < g1 ∧ w.heap.size < g2 by omega)
  have HC2 := Lib.hid hc2
  clear hq1 hb1 hb2 hb02 hg1 hg2 hz1 hsz2 hc2
  go_wp2_with fail
  refine (wpIn_wide (n := 9)).1 ?_
  refine wpIn_rangeFunc_Z (w0 := w2) (all := findL skew l) (encs := encF) (Z := fun _ => False) (X := XV g1 g2 A) rfl (fun h => by cases h) (gf := 24) (lb := #[.pointer (some ⟨g1, 0, none⟩), .pointer (some ⟨g2, 0, none⟩)]) rfl trivial (enters_of Tryd.func24 (by kernel_rfl) rfl)
    (SeqZ.any (finds_seq skew l A cap g1 g2 w2 HC2.out HS2.out HOK.out hsk (by omega) (fun b off e => by have := HA.out b off e; have := HZ.out; omega))) (Below.refl _ _) (fun _ => rfl) (fun _ h => h.elim)
    (fun pre T W => FC w false T W ∧ pre = [])
    (fun c pre T W => c = .ret ∧ FC w false T W ∧ pre ≠ [])
    (fun pre x a' T W => a' = { tmps := #[.int .i64 skew, .slice A l.length cap, undef, undef, .pointer (some ⟨w.heap.size, 0, none⟩), .int .i64 skew, .slice A l.length cap, .func (.func 24) #[] #[.pointer (some ⟨g1, 0, none⟩), .pointer (some ⟨g2, 0, none⟩)], .agg (findC x).toArray], defers := [] } ∧ FC w false T W ∧ pre = [])
    (fun x => x = w.heap.size)
    (fun s T A' B h hli => ⟨h.1.stab (by have := HZ.out; omega) hli, h.2⟩)
    (fun c s T A' B h hli => ⟨h.1, h.2.1.stab (by have := HZ.out; omega) hli, h.2.2⟩)
    (fun pre x a' _ T A' B h hli => ⟨h.1, h.2.1.stab (by have := HZ.out; omega) hli, h.2.2⟩)
    (fun s T A' h k hk => by
      obtain ⟨h, _⟩ := h
      obtain rfl := (h.2.2 k).1 hk
      exact h.1.lt)
    (fun k hk hx => by
      have hz := HZ.out
      subst hk
      rcases hx with h | h | ⟨b, off, e, h⟩
      · omega
      · omega
      · have := HA.out _ _ e; omega)
    ⟨HQ2.out, rfl⟩
    ?assign ?body ?done ?stop
  case assign =>
    rintro ln pre x T W hlD hpre hsz hI
    have HI := Lib.hid hI
    clear hI hpre
    dsimp only [encF]
    gi_wp2_with fail
    exact ⟨T, Turn.refl _ _, by simp [findC], HI.out⟩
  case body =>
    rintro ln pre x a' T W hlD hpre hsz ⟨rfl, hq, hp⟩
    have c6 := hq.1.cell 0
    have f6 := hq.1.frozen 0
    simp only [List.getElem?_toArray, List.getElem?_cons_zero] at c6
    have HQ := Lib.hid hq
    clear hq hpre hp
    gi_wp2_with fail
    refine ⟨T, ⟨rfl, rfl, rfl, by simp, fun k hk hn => Below.heap_setCell W ⟨w.heap.size, 0, none⟩ _ k (fun e => hn ((HQ.out.2.2 k).2 e)), fun k hk => .inl hk⟩, rfl, ⟨HQ.out.1.set_ 0 _, HQ.out.2.1.setCell (Nat.le_refl _) _, HQ.out.2.2⟩, by simp⟩
  case done =>
    rintro D T W hD ⟨hq, hp⟩ hnD hKd
    have c6 := hq.1.cell 0
    have f6 := hq.1.frozen 0
    simp only [List.getElem?_toArray, List.getElem?_cons_zero] at c6
    have hz := HZ.out
    have hlt6 := hq.1.lt
    obtain ⟨W2, hW2⟩ : ∃ W2, W2 = W.setCell ⟨w.heap.size, 0, none⟩ (.bool true) := ⟨_, rfl⟩
    have hKd2 : W2.heap[D]? = some (.deferred (some [])) := by rw [hW2]; exact (Below.heap_setCell W ⟨w.heap.size, 0, none⟩ _ D (by show D ≠ w.heap.size; omega)).trans hKd
    have hrun := run_takeDeferred (P := Tryd.prog) hKd2
    have hB2 : Blk (W2.putObj D (.deferred none)) w.heap.size 4 #[.bool true] := (World.putObj_heap_other (by omega)).trans (by rw [hW2]; exact hq.1.set_ 0 _)
    have hbl : Below w.heap.size w (W2.putObj D (.deferred none)) := by
      have h5 : Below w.heap.size w W2 := by rw [hW2]; exact hq.2.1.setCell (Nat.le_refl _) _
      exact ⟨h5.os, h5.tape, h5.output, by simpa using h5.size, fun k hk => (World.putObj_heap_other (by omega)).trans (h5.block k hk)⟩
    have c7 := hB2.cell 0
    simp only [List.getElem?_toArray, List.getElem?_cons_zero] at c7
    have HP := Lib.hid hp
    have HBL := Lib.hid hbl
    have HRUN := Lib.hid hrun
    have HW2 := Lib.hid hW2
    clear hq hp hB2 hbl hKd hKd2 hrun hW2
    gi_wp2_with fail
    go_wp2_with fail
    rw [← HW2.out]
    refine ⟨by simp, .inl ⟨_, _, rfl, HRUN.out, ?_⟩⟩
    refine ⟨.bool true, by simp [results, Tryd.results12, go_sem, c7], ?_, HBL.out⟩
    rw [HP.out]; rfl
  case stop =>
    rintro D c pre T W hD hpre ⟨rfl, hq, hp⟩ hnD hKd
    have hz := HZ.out
    have hrun := run_takeDeferred (P := Tryd.prog) hKd
    have hB2 : Blk (W.putObj D (.deferred none)) w.heap.size 4 #[.bool false] := (World.putObj_heap_other (by omega)).trans hq.1
    have hbl : Below w.heap.size w (W.putObj D (.deferred none)) := by
      have h5 := hq.2.1
      exact ⟨h5.os, h5.tape, h5.output, by simpa using h5.size, fun k hk => (World.putObj_heap_other (by omega)).trans (h5.block k hk)⟩
    have c7 := hB2.cell 0
    simp only [List.getElem?_toArray, List.getElem?_cons_zero] at c7
    have he : (findL skew l).isEmpty = false := by
      cases hf : findL skew l with
      | nil => rw [hf] at hpre; exact absurd (List.prefix_nil.1 hpre) hp
      | cons _ _ => rfl
    have HE := Lib.hid he
    have HBL := Lib.hid hbl
    have HRUN := Lib.hid hrun
    clear hq hB2 hbl hKd hrun he hp hpre
    gi_wp2_with fail
    refine ⟨by simp, .inl ⟨_, _, rfl, HRUN.out, ?_⟩⟩
    refine ⟨.bool false, by simp [results, Tryd.results12, go_sem, c7], by rw [HE.out], HBL.out⟩
end Go.Proofs.YtmhckcghfikeiaaDoor
