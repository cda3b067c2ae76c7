/- audit.First, audit.Clean. -/
import Derived.Test.YtmhckcghfikeiaaDoorFinds2
namespace Go.Proofs.YtmhckcghfikeiaaDoor
open Go.RowKit
attribute [local irreducible] wpQuiet wpAnyH
attribute [local go_sem] Oper.semAt_some
set_option linter.unusedSimpArgs false

/-- The place of the first finding with a name; -1, if there is none. -/
def firstAt (rule : ByteArray) : List (Nat × Nat) → Int
  | [] => -1
  | f :: fs => if ruleN f.1 = rule then f.2 else firstAt rule fs
theorem firstAt_none {rule : ByteArray} : ∀ {fs : List (Nat × Nat)}, (∀ f ∈ fs, ruleN f.1 ≠ rule) → firstAt rule fs = -1
  | [], _ => rfl
  | f :: fs, h => by
    unfold firstAt
    rw [if_neg (h f (by simp))]
    exact firstAt_none fun g hg => h g (by simp [hg])
theorem firstAt_pre {rule : ByteArray} {x : Nat × Nat} : ∀ {pre rest : List (Nat × Nat)}, (∀ f ∈ pre, ruleN f.1 ≠ rule) → ruleN x.1 = rule → firstAt rule (pre ++ x :: rest) = x.2
  | [], rest, _, hx => by unfold firstAt; exact if_pos hx
  | f :: pre, rest, h, hx => by
    rw [List.cons_append]
    unfold firstAt
    rw [if_neg (h f (by simp))]
    exact firstAt_pre (fun g hg => h g (by simp [hg])) hx
theorem lies_below {w0 A B : World} {N : Nat} {T : Terr} (h5 : Below w0.heap.size w0 A) (hN : w0.heap.size ≤ N) (hl : Lies (fun k => T k ∨ (k < N ∧ ¬ False)) A B) : Below w0.heap.size w0 B :=
  ⟨hl.os.trans h5.os, hl.tape.trans h5.tape, hl.output.trans h5.output, Nat.le_trans h5.size hl.size, fun k hk => (hl.block k (by have := h5.size; omega) (.inr ⟨by omega, id⟩)).trans (h5.block k hk)⟩
/-- What stands between two rounds of First. -/
def FQ (w0 : World) (rule : ByteArray) (z : Int) (T : Terr) (w : World) : Prop :=
  Blk w w0.heap.size 9 #[.string rule] ∧ Blk w (w0.heap.size + 1) 3 #[.int .i64 z] ∧ Below w0.heap.size w0 w ∧ ∀ x, T x ↔ x = w0.heap.size + 1
theorem FQ.stab {w0 : World} {rule : ByteArray} {z : Int} {T : Terr} {N : Nat} {A B : World} (hN : w0.heap.size + 2 ≤ N) (h : FQ w0 rule z T A) (hl : Lies (fun k => T k ∨ (k < N ∧ ¬ False)) A B) : FQ w0 rule z T B :=
  ⟨hl.blk h.1 (.inr ⟨by omega, id⟩), hl.blk h.2.1 (.inr ⟨by omega, id⟩), lies_below h.2.2.1 (by omega) hl, h.2.2.2⟩

set_option maxRecDepth 100000 in
set_option maxHeartbeats 4000000 in
theorem first_any (skew : Int) (rule : ByteArray) (l : List RowD) (A : Option Addr) (cap : Nat) (w : World) (hs : Sn w 36 (.slice A l.length cap) l.length (l.flatMap rowC)) (hok : ∀ r ∈ l, RowOk r) (hsk : isI64 skew) (hl : l.length ≤ 1000) (hA : InHeap w A) :
    Calls Tryd.prog 15 #[.int .i64 skew, .string rule, .slice A l.length cap] w fun e w' => e = .returned (.int .i64 (firstAt rule (findL skew l))) ∧ Below w.heap.size w w' := by
  have HS := Lib.hid hs
  have HOK := Lib.hid hok
  have HA := Lib.hid hA
  clear hs hok hA
  refine calls_marks Tryd.func15 rfl ?_
  simp only [Tryd.ntmps15, List.size_toArray, List.length_cons, List.length_nil, Nat.reduceAdd, Nat.reduceSub, Array.replicate_succ, Array.replicate_zero, List.push_toArray, List.append_toArray, List.nil_append, List.cons_append]
  refine wpIn_wide.2 ?_
  obtain ⟨w1, hw1⟩ : ∃ w1, w1 = (w.alloc (.cells #[.string rule] 9)).alloc (.cells #[.int .i64 0] 3) := ⟨_, rfl⟩
  have hb1 : Below w.heap.size w w1 := by rw [hw1]; exact (bel1 _ _).alloc (by simp) _
  have hq1 : FQ w rule 0 (fun x => x = w.heap.size + 1) w1 := ⟨by rw [hw1]; exact (Blk.new _ _ _).alloc _, by rw [hw1]; exact Blk.newAt _ _ _ _ (by simp), hb1, fun _ => Iff.rfl⟩
  have hz1 : w1.heap.size = w.heap.size + 2 := by rw [hw1]; simp
  go_wp2_with fail
  rw [← hw1]
  clear hw1
  refine (findings_any skew A l.length cap _).mono ?_
  rintro e w2 ⟨g1, g2, rfl, hc2, hb2, hg1, hg2⟩
  have hb02 := bstep hb1 hb2
  have HQ2 : Hid (FQ w rule 0 (fun x => x = w.heap.size + 1) w2) := Lib.hid (hq1.stab (N := w1.heap.size) (by omega) (Lies.of_below hb2))
  have HS2 := Lib.hid (HS.out.below hb02)
  have hsz2 := hb2.size
  have HZ := Lib.hid (show w.heap.size + 2 ≤ w2.heap.size ∧ w.heap.size + 1 < g1 ∧ w.heap.size + 1 < g2 by omega)
  have HC2 := Lib.hid hc2
  clear hq1 hb1 hb2 hb02 hg1 hg2 hz1 hsz2 hc2
  go_wp2_with fail
  refine (wpIn_wide (n := 9)).1 ?_
  refine wpIn_rangeFunc_Z (w0 := w2) (all := findL skew l) (encs := encF) (Z := fun _ => False) (X := XV g1 g2 A) rfl (fun h => by cases h) (gf := 24) (lb := #[.pointer (some ⟨g1, 0, none⟩), .pointer (some ⟨g2, 0, none⟩)]) rfl trivial (enters_of Tryd.func24 (by kernel_rfl) rfl)
    (SeqZ.any (finds_seq skew l A cap g1 g2 w2 HC2.out HS2.out HOK.out hsk (by omega) (fun b off e => by have := HA.out b off e; have := HZ.out; omega))) (Below.refl _ _) (fun _ => rfl) (fun _ h => h.elim)
    (fun pre T W => FQ w rule 0 T W ∧ ∀ f ∈ pre, ruleN f.1 ≠ rule)
    (fun c _ T W => c = .ret ∧ FQ w rule (firstAt rule (findL skew l)) T W)
    (fun pre x a' T W => ∃ b6, a' = { tmps := #[.int .i64 skew, .string rule, .slice A l.length cap, undef, .pointer (some ⟨w.heap.size, 0, none⟩), undef, .pointer (some ⟨w.heap.size + 1, 0, none⟩), .pointer (some ⟨b6, 0, none⟩), .int .i64 skew, .slice A l.length cap, .func (.func 24) #[] #[.pointer (some ⟨g1, 0, none⟩), .pointer (some ⟨g2, 0, none⟩)], .agg (findC x).toArray, undef, undef, undef, undef, undef, undef], defers := [] } ∧ ∃ To, FQ w rule 0 To W ∧ (∀ f ∈ pre, ruleN f.1 ≠ rule) ∧ (∀ y, T y ↔ To y ∨ y = b6) ∧ Blk W b6 34 (findC x).toArray ∧ w.heap.size + 1 < b6)
    (fun x => x = w.heap.size + 1)
    (fun s T A' B h hli => ⟨h.1.stab (by have := HZ.out; omega) hli, h.2⟩)
    (fun c s T A' B h hli => ⟨h.1, h.2.stab (by have := HZ.out; omega) hli⟩)
    (fun pre x a' _ T A' B h hli => by
      obtain ⟨b6, ha, To, h1, hp, h2, h4, h5⟩ := h
      exact ⟨b6, ha, To, h1.stab (N := w2.heap.size) (by have := HZ.out; omega) (hli.mono fun k hk => hk.imp (fun h => (h2 k).2 (.inl h)) id), hp, h2, hli.blk h4 (.inl ((h2 b6).2 (.inr rfl))), h5⟩)
    (fun s T A' h k hk => by
      obtain ⟨h, _⟩ := h
      obtain rfl := (h.2.2.2 k).1 hk
      exact h.2.1.lt)
    (fun k hk hx => by
      have hz := HZ.out
      subst hk
      rcases hx with h | h | ⟨b, off, e, h⟩
      · omega
      · omega
      · have := HA.out _ _ e; omega)
    ⟨HQ2.out, by simp⟩
    ?assign ?body ?done ?stop
  case assign =>
    rintro ln pre x T W hlD hpre hsz hI
    have HI := Lib.hid hI
    clear hI hpre
    dsimp only [encF]
    gi_wp2_with fail
    have hbN := bel1 W (.cells (findC x).toArray 34)
    have hz := HZ.out
    refine ⟨fun k => T k ∨ k = W.heap.size, (Turn.of_below hbN).grow (fun k hk => hk.imp id (fun h => by omega)), W.heap.size, rfl, T, HI.out.1.stab (N := w2.heap.size) (by omega) (Lies.of_below hbN), HI.out.2, fun _ => Iff.rfl, Blk.new _ _ _, by omega⟩
  case body =>
    rintro ln pre x a' T W hlD hpre hsz ⟨b6, rfl, To, hq, hp, hT, hB6, hb6⟩
    have c4 := hq.1.cell 0
    have c6 := hq.2.1.cell 0
    have f6 := hq.2.1.frozen 0
    have d0 := hB6.cell 0
    have d1 := hB6.cell 1
    simp only [List.getElem?_toArray, List.getElem?_cons_zero, List.getElem?_cons_succ, findC] at c4 c6 d0 d1
    have HQ := Lib.hid hq
    have HP := Lib.hid hp
    have HT := Lib.hid hT
    have HPRE := Lib.hid hpre
    clear hq hp hT hB6 hpre
    by_cases he : ruleN x.1 = rule
    · have t1 := str_tt he
      have HE := Lib.hid he
      clear he
      gi_wp2_with fail
      have hfa : firstAt rule (findL skew l) = x.2 := by
        obtain ⟨r, hr⟩ := HPRE.out
        rw [← hr, List.append_assoc]
        exact firstAt_pre HP.out HE.out
      rw [← hfa]
      refine ⟨fun y => y = w.heap.size + 1, ⟨rfl, rfl, rfl, by simp, fun k hk hn => Below.heap_setCell W ⟨w.heap.size + 1, 0, none⟩ _ k (fun e => hn ((HT.out k).2 (.inl ((HQ.out.2.2.2 k).2 e)))), fun k hk => .inl ((HT.out k).2 (.inl ((HQ.out.2.2.2 k).2 hk)))⟩, rfl, HQ.out.1.far (by show w.heap.size ≠ w.heap.size + 1; omega) _, HQ.out.2.1.set_ 0 _, HQ.out.2.2.1.setCell (by simp) _, fun _ => Iff.rfl⟩
    · have t1 := str_ff he
      have HE := Lib.hid he
      clear he
      gi_wp2_with fail
      refine ⟨To, (Turn.refl T W).grow (fun k hk => .inl ((HT.out k).2 (.inl hk))), HQ.out, fun f hf => ?_⟩
      rcases List.mem_append.1 hf with hf | hf
      · exact HP.out f hf
      · obtain rfl : f = x := by simpa using hf
        exact HE.out
  case done =>
    rintro D T W hD ⟨hq, hp⟩ hnD hKd
    have c6 := hq.2.1.cell 0
    have f6 := hq.2.1.frozen 0
    simp only [List.getElem?_toArray, List.getElem?_cons_zero] at c6
    have hz := HZ.out
    have hlt6 := hq.2.1.lt
    obtain ⟨W2, hW2⟩ : ∃ W2, W2 = W.setCell ⟨w.heap.size + 1, 0, none⟩ (.int .i64 (-1)) := ⟨_, rfl⟩
    have hKd2 : W2.heap[D]? = some (.deferred (some [])) := by rw [hW2]; exact (Below.heap_setCell W ⟨w.heap.size + 1, 0, none⟩ _ D (by show D ≠ w.heap.size + 1; omega)).trans hKd
    have hrun := run_takeDeferred (P := Tryd.prog) hKd2
    have hB2 : Blk (W2.putObj D (.deferred none)) (w.heap.size + 1) 3 #[.int .i64 (-1)] := (World.putObj_heap_other (by omega)).trans (by rw [hW2]; exact hq.2.1.set_ 0 _)
    have hbl : Below w.heap.size w (W2.putObj D (.deferred none)) := by
      have h5 : Below w.heap.size w W2 := by rw [hW2]; exact hq.2.2.1.setCell (by simp) _
      exact ⟨h5.os, h5.tape, h5.output, by simpa using h5.size, fun k hk => (World.putObj_heap_other (by omega)).trans (h5.block k hk)⟩
    have c7 := hB2.cell 0
    simp only [List.getElem?_toArray, List.getElem?_cons_zero] at c7
    have HP := Lib.hid (firstAt_none hp)
    have HBL := Lib.hid hbl
    have HRUN := Lib.hid hrun
    have HW2 := Lib.hid hW2
    clear hq hp hB2 hbl hKd hKd2 hrun hW2
    gi_wp2_with fail
    go_wp2_with fail
    rw [← HW2.out]
    refine ⟨by simp, .inl ⟨_, _, rfl, HRUN.out, ?_⟩⟩
    refine ⟨.int .i64 (-1), by simp [results, Tryd.results15, go_sem, c7], ?_, HBL.out⟩
    rw [HP.out]
  case stop =>
    rintro D c pre T W hD hpre ⟨rfl, hq⟩ hnD hKd
    have hz := HZ.out
    have hrun := run_takeDeferred (P := Tryd.prog) hKd
    have hB2 : Blk (W.putObj D (.deferred none)) (w.heap.size + 1) 3 #[.int .i64 (firstAt rule (findL skew l))] := (World.putObj_heap_other (by omega)).trans hq.2.1
    have hbl : Below w.heap.size w (W.putObj D (.deferred none)) := by
      have h5 := hq.2.2.1
      exact ⟨h5.os, h5.tape, h5.output, by simpa using h5.size, fun k hk => (World.putObj_heap_other (by omega)).trans (h5.block k hk)⟩
    have c7 := hB2.cell 0
    simp only [List.getElem?_toArray, List.getElem?_cons_zero] at c7
    have HBL := Lib.hid hbl
    have HRUN := Lib.hid hrun
    clear hq hB2 hbl hKd hrun
    gi_wp2_with fail
    refine ⟨by simp, .inl ⟨_, _, rfl, HRUN.out, ?_⟩⟩
    refine ⟨.int .i64 (firstAt rule (findL skew l)), by simp [results, Tryd.results15, go_sem, c7], rfl, HBL.out⟩
end Go.Proofs.YtmhckcghfikeiaaDoor
