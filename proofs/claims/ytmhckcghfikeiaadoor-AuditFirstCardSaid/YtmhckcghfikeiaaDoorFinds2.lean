/- audit.Find. -/
import Derived.Test.YtmhckcghfikeiaaDoorFinds1
import Derived.Test.YtmhckcghfikeiaaDoorStep
namespace Go.Proofs.YtmhckcghfikeiaaDoor
open Go.RowKit
attribute [local irreducible] wpQuiet wpAnyH
attribute [local go_sem] Oper.semAt_some
set_option linter.unusedSimpArgs false

def findC (f : Nat × Nat) : List Value := [.string (ruleN f.1), .int .i64 f.2]
theorem findC_one (f : Nat × Nat) : ∀ u ∈ findC f, u.oneCell' = true := by
  intro u hu
  simp [findC] at hu
  rcases hu with rfl | rfl <;> rfl
theorem tFnd : SlT Tryd.prog 25 34 2 24 := SlT.mk' Tryd.underlying25 (z := .agg #[.string ByteArray.empty, .int .i64 0]) (by kernel_rfl) rfl (by decide)
theorem findL_len (skew : Int) (l : List RowD) : (findL skew l).length ≤ 5 * l.length := findK_len skew l l.length
/-- A slice whose block, if it has one, lies in the heap. -/
def InHeap (w : World) (A : Option Addr) : Prop := ∀ b off, A = some ⟨b, off, none⟩ → b < w.heap.size
/-- What stands between two rounds of Find: the box and what it holds. -/
def FD (w0 : World) (bF : Nat) (fs : List (Nat × Nat)) (T : Terr) (w : World) : Prop :=
  ∃ v, Blk w bF 25 #[v] ∧ w.ownsRow w0.heap.size 34 2 v fs.length (fs.flatMap findC) ∧ (∀ x, T x ↔ x = bF ∨ v.ownBlock = some x) ∧ v.ownBlock ≠ some bF ∧ Below w0.heap.size w0 w
theorem FD.stab {w0 : World} {bF N : Nat} {fs : List (Nat × Nat)} {T : Terr} {A B : World} (hN : w0.heap.size ≤ N) (h : FD w0 bF fs T A) (hl : Lies (fun k => T k ∨ (k < N ∧ ¬ False)) A B) : FD w0 bF fs T B := by
  obtain ⟨v, h1, h2, h3, h4, h5⟩ := h
  refine ⟨v, hl.blk h1 (.inl ((h3 _).2 (.inl rfl))), ⟨h2.1, ?_⟩, h3, h4, ⟨hl.os.trans h5.os, hl.tape.trans h5.tape, hl.output.trans h5.output, Nat.le_trans h5.size hl.size, fun k hk => (hl.block k (by have := h5.size; omega) (.inr ⟨by omega, id⟩)).trans (h5.block k hk)⟩⟩
  rcases h2.2 with h6 | ⟨g, cap, cur, rfl, hg, hh, r⟩
  · exact .inl h6
  · refine .inr ⟨g, cap, cur, rfl, hg, ?_, r⟩
    have hlt : g < A.heap.size := (Array.getElem?_eq_some_iff.1 hh).1
    exact (hl.block g hlt (.inl ((h3 g).2 (.inr rfl)))).trans hh

theorem grow_box {W w3 : World} {bF : Nat} {t : TypeId} {cs : Array Value} {o : Obj} {row : Option Nat} (h1 : Blk W bF t cs) (hg : (W.alloc o).grownBy w3 row) (hn : row ≠ some bF) : Blk w3 bF t cs :=
  (hg.block bF (by have := h1.lt; simp; omega) (fun e => hn e.symm)).trans (h1.alloc o)
theorem own_blk {w w' : World} {base e s n : Nat} {v : Value} {xs : List Value} (h : w.ownsRow base e s v n xs) (hb : ∀ b, v.ownBlock = some b → w'.heap[b]? = w.heap[b]?) : w'.ownsRow base e s v n xs := by
  refine ⟨h.1, ?_⟩
  rcases h.2 with h2 | ⟨g, cap, cur, rfl, hg, hh, r⟩
  · exact .inl h2
  · exact .inr ⟨g, cap, cur, rfl, hg, by rw [hb g rfl]; exact hh, r⟩
set_option maxRecDepth 100000 in
set_option maxHeartbeats 4000000 in
theorem find_any (skew : Int) (l : List RowD) (A : Option Addr) (cap : Nat) (w : World) (hs : Sn w 36 (.slice A l.length cap) l.length (l.flatMap rowC)) (hok : ∀ r ∈ l, RowOk r) (hsk : isI64 skew) (hl : l.length ≤ 1000) (hA : InHeap w A) :
    Calls Tryd.prog 9 #[.int .i64 skew, .slice A l.length cap] w fun e w' => ∃ v, e = .returned v ∧ w'.ownsRow w.heap.size 34 2 v (findL skew l).length ((findL skew l).flatMap findC) ∧ Below w.heap.size w w' := by
  have HS := Lib.hid hs
  have HOK := Lib.hid hok
  have HA := Lib.hid hA
  clear hs hok hA
  refine calls_marks Tryd.func9 rfl ?_
  simp only [Tryd.ntmps9, List.size_toArray, List.length_cons, List.length_nil, Nat.reduceAdd, Nat.reduceSub, Array.replicate_succ, Array.replicate_zero, List.push_toArray, List.append_toArray, List.nil_append, List.cons_append]
  refine wpIn_wide.2 ?_
  obtain ⟨w1, hw1⟩ : ∃ w1, w1 = w.alloc (.cells #[.slice none 0 0] 25) := ⟨_, rfl⟩
  have hb1 : Below w.heap.size w w1 := by rw [hw1]; exact bel1 _ _
  have hB1 : Blk w1 w.heap.size 25 #[.slice none 0 0] := by rw [hw1]; exact Blk.new _ _ _
  have hz1 : w1.heap.size = w.heap.size + 1 := by rw [hw1]; simp
  go_wp2_with fail
  rw [← hw1]
  clear hw1
  refine (findings_any skew A l.length cap _).mono ?_
  rintro e w2 ⟨g1, g2, rfl, hc2, hb2, hg1, hg2⟩
  have HB2 := Lib.hid (hB1.keep hb2)
  have hb02 := bstep hb1 hb2
  have HB02 := Lib.hid hb02
  have HS2 := Lib.hid (HS.out.below hb02)
  have hsz2 := hb2.size
  have HZ := Lib.hid (show w.heap.size + 1 ≤ w2.heap.size ∧ w.heap.size < g1 ∧ w.heap.size < g2 by omega)
  have HC2 := Lib.hid hc2
  clear hB1 hb1 hb2 hb02 hg1 hg2 hz1 hsz2 hc2
  go_wp2_with fail
  refine (wpIn_wide (n := 9)).1 ?_
  refine wpIn_rangeFunc_Z (w0 := w2) (all := findL skew l) (encs := encF) (Z := fun _ => False) (X := XV g1 g2 A) rfl (fun h => by cases h) (gf := 24) (lb := #[.pointer (some ⟨g1, 0, none⟩), .pointer (some ⟨g2, 0, none⟩)]) rfl trivial (enters_of Tryd.func24 (by kernel_rfl) rfl)
    (SeqZ.any (finds_seq skew l A cap g1 g2 w2 HC2.out HS2.out HOK.out hsk (by omega) (fun b off e => by have := HA.out b off e; have := HZ.out; omega))) (Below.refl _ _) (fun _ => rfl) (fun _ h => h.elim)
    (fun pre T W => FD w w.heap.size pre T W)
    (fun _ _ _ _ => False)
    (fun pre x a' T W => ∃ b6, a' = { tmps := #[.int .i64 skew, .slice A l.length cap, undef, undef, .slice none 0 0, .pointer (some ⟨w.heap.size, 0, none⟩), .pointer (some ⟨b6, 0, none⟩), .int .i64 skew, .slice A l.length cap, .func (.func 24) #[] #[.pointer (some ⟨g1, 0, none⟩), .pointer (some ⟨g2, 0, none⟩)], .agg (findC x).toArray, undef, undef, undef, undef, undef], defers := [] } ∧ ∃ To, FD w w.heap.size pre To W ∧ (∀ y, T y ↔ To y ∨ y = b6) ∧ ¬ To b6 ∧ Blk W b6 34 (findC x).toArray ∧ w.heap.size < b6)
    (fun x => x = w.heap.size)
    (fun s T A' B h hli => h.stab (by have := HZ.out; omega) hli)
    (fun _ _ _ _ _ h _ => h)
    (fun pre x a' _ T A' B h hli => by
      obtain ⟨b6, ha, To, h1, h2, h3, h4, h5⟩ := h
      exact ⟨b6, ha, To, h1.stab (N := w2.heap.size) (by have := HZ.out; omega) (hli.mono fun k hk => hk.imp (fun h => (h2 k).2 (.inl h)) id), h2, h3, hli.blk h4 (.inl ((h2 b6).2 (.inr rfl))), h5⟩)
    (fun s T A' h k hk => by
      obtain ⟨v, h1, h2, h3, _⟩ := h
      rcases (h3 k).1 hk with rfl | h
      · exact h1.lt
      · exact (h2.lt k h).2)
    (fun k hk hx => by
      have hz := HZ.out
      subst hk
      rcases hx with h | h | ⟨b, off, e, h⟩
      · omega
      · omega
      · have := HA.out _ _ e; omega)
    ⟨.slice none 0 0, HB2.out, World.ownsRow_nil _ _ _ _, fun x => ⟨.inl, fun h => h.elim id (fun h => by cases h)⟩, (fun h => by cases h), HB02.out⟩
    ?assign ?body ?done ?stop
  case assign =>
    rintro ln pre x T W hlD hpre hsz hI
    obtain ⟨v, h1, h2, h3, h4, h5⟩ := hI
    have hI : FD w w.heap.size pre T W := ⟨v, h1, h2, h3, h4, h5⟩
    have HI := Lib.hid hI
    have hsz5 := h5.size
    have hlt : ∀ k, T k → k < W.heap.size := fun k hk => by
      rcases (h3 k).1 hk with rfl | h
      · exact h1.lt
      · exact (h2.lt k h).2
    have HLT := Lib.hid hlt
    clear h1 h2 h3 h4 h5 hI hlt hpre
    dsimp only [encF]
    gi_wp2_with fail
    have hbN := bel1 W (.cells (findC x).toArray 34)
    refine ⟨fun k => T k ∨ k = W.heap.size, (Turn.of_below hbN).grow (fun k hk => hk.imp id (fun h => by omega)), W.heap.size, rfl, T, HI.out.stab (N := w.heap.size) (Nat.le_refl _) (Lies.of_below hbN), fun _ => Iff.rfl, fun h => absurd (HLT.out _ h) (by omega), Blk.new _ _ _, by have := HZ.out; omega⟩
  case body =>
    rintro ln pre x a' T W hlD hpre hsz ⟨b6, rfl, To, ⟨v, h1, h2, h3, h4, h5⟩, hT, h6, hB6, hb6⟩
    have hlen := (List.IsPrefix.length_le hpre)
    have hfl := findL_len skew l
    simp only [List.length_append, List.length_singleton] at hlen
    have hlen2 : pre.length ≤ 5000 := by omega
    have c5 := h1.cell 0
    have f5 := h1.frozen 0
    simp only [List.getElem?_toArray, List.getElem?_cons_zero] at c5
    have hr6 := hB6.range
    rw [List.toList_toArray] at hr6
    have HR6 := Lib.hid hr6
    have hlt5 := h1.lt
    have H1 := Lib.hid h1
    have H2 := Lib.hid h2
    have H3 := Lib.hid h3
    have H5 := Lib.hid h5
    have HT := Lib.hid hT
    have hsz5 := h5.size
    have HN4 := Lib.hid h4
    clear h1 h2 h3 h5 hT hB6 hr6 hlen hfl hpre h4
    have hfc : (findC x).length = 2 := rfl
    gi_wp2_with (first
      | (refine iLd 34 (.tmp 6) rfl (round_fn _) rfl (by rfl) HR6.out Tryd.underlying34 rfl (by kernel_rfl) ?_)
      | (refine iApp tFnd (.tmp 11) (.tmp 13) (round_fn _) rfl rfl (by rfl) (H2.out.alloc _) (by rfl) (Sn.new W (findC x).toArray 34 2 1 rfl) (findC_one x) (by unfold maxLen; omega) (by omega) (by simp; omega) ?_; intro v' w3 hown hgrow hblk; obtain ⟨g', cap', rfl⟩ := ownsRow_succ hown; have hB3 := grow_box H1.out hgrow HN4.out; have c6 := hB3.cell 0; have f6 := hB3.frozen 0; simp only [List.getElem?_toArray, List.getElem?_cons_zero] at c6; have HB3 := Lib.hid hB3; have HOW := Lib.hid hown; have HGR := Lib.hid hgrow; have HBK := Lib.hid hblk; clear hB3 hown hgrow hblk c5 f5))
    have hgs := HGR.out.size
    have hbA := bel1 W (.cells (findC x).toArray 34)
    have hbo := (HOW.out.lt g' rfl)
    have hgne : g' ≠ w.heap.size := fun e => by
      rcases HBK.out with h | h
      · exact HN4.out (h ▸ (by rw [← e]; rfl))
      · injection h with h; simp at h; omega
    refine ⟨fun y => y = w.heap.size ∨ y = g', ⟨HGR.out.os, HGR.out.tape, HGR.out.output, ?_, fun k hk hn => ?_, fun k hk => ?_⟩, .slice (some ⟨g', 0, none⟩) (pre.length + 1) cap', HB3.out.set_ 0 _, ?_, fun y => ⟨fun h => h.imp id (fun e => by rw [e]; rfl), fun h => h.imp id (fun e => by injection e with e; exact e.symm)⟩, fun e => hgne (by injection e with e), ?_⟩
    · simp at hgs ⊢; omega
    · have hn1 : k ≠ w.heap.size := fun e => hn ((HT.out k).2 (.inl ((H3.out k).2 (.inl e))))
      have hn2 : v.ownBlock ≠ some k := fun e => hn ((HT.out k).2 (.inl ((H3.out k).2 (.inr e))))
      exact (Below.heap_setCell w3 ⟨w.heap.size, 0, none⟩ _ k hn1).trans ((HGR.out.block k (by simp; omega) (fun e => hn2 e.symm)).trans (hbA.block k hk))
    · rcases hk with rfl | rfl
      · exact .inl ((HT.out _).2 (.inl ((H3.out _).2 (.inl rfl))))
      · rcases HBK.out with h | h
        · exact .inl ((HT.out _).2 (.inl ((H3.out _).2 (.inr h.symm))))
        · right; have h' : k = _ := Option.some.inj h; rw [h']; simp
    · rw [List.length_append, List.length_singleton, List.flatMap_append]
      simp only [List.flatMap_cons, List.flatMap_nil, List.append_nil]
      exact own_blk HOW.out (fun b e => by
        have e' : g' = b := Option.some.inj e
        have : b ≠ w.heap.size := fun e2 => hgne (by omega)
        exact Below.heap_setCell w3 ⟨w.heap.size, 0, none⟩ _ b this)
    · exact ((H5.out.trans (hbA.mono hsz5)).grown HGR.out (by simp; omega) (fun g hg => (H2.out.lt g hg).1)).setCell (Nat.le_refl _) _
  case done =>
    rintro D T W hD ⟨v, h1, h2, h3, h4, h5⟩ hnD hKd
    have c5 := h1.cell 0
    simp only [List.getElem?_toArray, List.getElem?_cons_zero] at c5
    have HD : Hid (W.heap[D]? = some (.deferred (some []))) := Lib.hid hKd
    have hrun := run_takeDeferred (P := Tryd.prog) hKd
    have HX : Hid ((W.putObj D (.deferred none)).ownsRow w.heap.size 34 2 v (findL skew l).length ((findL skew l).flatMap findC) ∧ Below w.heap.size w (W.putObj D (.deferred none))) := Lib.hid (by
      have hDz : w.heap.size < D := by have := HZ.out; omega
      refine ⟨own_blk h2 (fun b e => World.putObj_heap_other (fun e2 => hnD ((h3 D).2 (.inr (e2 ▸ e))))), ⟨h5.os, h5.tape, h5.output, by simpa using h5.size, fun k hk => (World.putObj_heap_other (by omega)).trans (h5.block k hk)⟩⟩)
    clear h1 h2 h3 h4 h5 hKd
    gi_wp2_with fail
    go_wp2_with fail
    refine ⟨by simp, .inl ⟨_, _, rfl, hrun, ?_⟩⟩
    exact ⟨_, results_tmp rfl _ _ _, v, rfl, HX.out.1, HX.out.2⟩
  case stop =>
    rintro D c pre T W hD hpre h
    exact h.elim
end Go.Proofs.YtmhckcghfikeiaaDoor
