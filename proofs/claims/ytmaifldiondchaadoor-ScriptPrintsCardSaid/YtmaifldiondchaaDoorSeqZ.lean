/- A range over a function whose iterator keeps a state of its own: the body owns a territory T of blocks, the iterator keeps every block of T, the body every block that is not of T. No program is named here. -/
import Derived.Test.YtmaifldiondchaaDoorRows
import Derived.RangeFuncNested
import Derived.RangeFuncBound
import Derived.RangeFuncCalls
import Derived.RangeFuncLeaves
import Derived.Shelf.Abstract
import Derived.Shelf.RegionOpen
import Derived.WalkKit
import Derived.OwnWalkIn
import Derived.TacticsInMore
import Derived.LoopNIn
import Derived.LoopIn
namespace Go.Proofs.YtmaifldiondchaaDoor
open Go.RowKit

abbrev Terr := Nat → Prop
/-- The blocks of T lie as they lay: what a step of the iterator does. -/
structure Lies (T : Terr) (W W' : World) : Prop where
  os : W'.os = W.os
  tape : W'.tape = W.tape
  output : W'.output = W.output
  size : W.heap.size ≤ W'.heap.size
  block : ∀ k, k < W.heap.size → T k → W'.heap[k]? = W.heap[k]?
/-- What the body's side does: blocks that are not of T lie as they lay; T has grown by new blocks alone. -/
structure Turn (T : Terr) (W : World) (T' : Terr) (W' : World) : Prop where
  os : W'.os = W.os
  tape : W'.tape = W.tape
  output : W'.output = W.output
  size : W.heap.size ≤ W'.heap.size
  block : ∀ k, k < W.heap.size → ¬ T k → W'.heap[k]? = W.heap[k]?
  sub : ∀ k, T' k → T k ∨ W.heap.size ≤ k
theorem Lies.refl (T : Terr) (W : World) : Lies T W W := ⟨rfl, rfl, rfl, Nat.le_refl _, fun _ _ _ => rfl⟩
theorem Lies.trans {T : Terr} {A B C : World} (h : Lies T A B) (k : Lies T B C) : Lies T A C :=
  ⟨k.os.trans h.os, k.tape.trans h.tape, k.output.trans h.output, Nat.le_trans h.size k.size, fun i hi ht => (k.block i (Nat.lt_of_lt_of_le hi h.size) ht).trans (h.block i hi ht)⟩
theorem Lies.mono {T T' : Terr} {A B : World} (h : Lies T A B) (hs : ∀ k, T' k → T k) : Lies T' A B := ⟨h.os, h.tape, h.output, h.size, fun k hk ht => h.block k hk (hs k ht)⟩
theorem Lies.alloc (T : Terr) (W : World) (o : Obj) : Lies T W (W.alloc o) := ⟨rfl, rfl, rfl, by simp, fun k hk _ => Below.heap_alloc W o k hk⟩
theorem Lies.putObj (T : Terr) (W : World) {l : Nat} (hl : ¬ T l) (o : Obj) : Lies T W (W.putObj l o) := ⟨rfl, rfl, rfl, by simp, fun k _ ht => World.putObj_heap_other (fun e => hl (e ▸ ht))⟩
theorem Lies.of_below {T : Terr} {W W' : World} (h : Below W.heap.size W W') : Lies T W W' := ⟨h.os, h.tape, h.output, h.size, fun k hk _ => h.block k hk⟩
theorem Lies.setCell (T : Terr) (W : World) (b i : Nat) (hb : ¬ T b) (v : Value) : Lies T W (W.setCell ⟨b, i, none⟩ v) := ⟨rfl, rfl, rfl, by simp, fun k _ ht => Below.heap_setCell W ⟨b, i, none⟩ v k (fun e => hb (by cases e; exact ht))⟩
theorem Turn.refl (T : Terr) (W : World) : Turn T W T W := ⟨rfl, rfl, rfl, Nat.le_refl _, fun _ _ _ => rfl, fun _ h => .inl h⟩
theorem Turn.trans {T T' T'' : Terr} {A B C : World} (h : Turn T A T' B) (k : Turn T' B T'' C) : Turn T A T'' C :=
  ⟨k.os.trans h.os, k.tape.trans h.tape, k.output.trans h.output, Nat.le_trans h.size k.size,
   fun i hi ht => (k.block i (Nat.lt_of_lt_of_le hi h.size) (fun h' => (h.sub i h').elim ht (fun h2 => by omega))).trans (h.block i hi ht),
   fun i hi => (k.sub i hi).elim (h.sub i) (fun h2 => .inr (Nat.le_trans h.size h2))⟩
theorem Turn.of_below {T : Terr} {W W' : World} (h : Below W.heap.size W W') : Turn T W T W' := ⟨h.os, h.tape, h.output, h.size, fun k hk _ => h.block k hk, fun _ h => .inl h⟩
theorem Turn.grow {T T' : Terr} {W W' : World} (h : Turn T W T' W') {T'' : Terr} (hs : ∀ k, T'' k → T' k ∨ W.heap.size ≤ k) : Turn T W T'' W' :=
  ⟨h.os, h.tape, h.output, h.size, h.block, fun k hk => (hs k hk).elim (h.sub k) .inr⟩
/-- A statement that speaks of the blocks of T alone, and of those that lay below N and are not of Z. -/
def Stab {β : Type} (N : Nat) (Z : Terr) (J : β → Terr → World → Prop) : Prop := ∀ s T A B, J s T A → Lies (fun k => T k ∨ (k < N ∧ ¬ Z k)) A B → J s T B

/-- The contract of an iterator that keeps a state of its own; X: the blocks that it has had since before the loop and leans on; Z: those of them that it writes. -/
def SeqZ {α : Type} (F : Fence) (n : Nat) (P : Program) (g : Nat) (lb : Array Value) (encs : α → Array Value) (X Z : Terr) (all : List α) (w : World) : Prop :=
  ∀ (l : Nat) (J Jx : List α → Terr → World → Prop) (T0 : Terr) (W : World), Below w.heap.size w W → w.heap.size ≤ l → l < W.heap.size → Stab W.heap.size Z J → Stab W.heap.size Z Jx → (∀ s T A, J s T A → ∀ k, T k → k < A.heap.size) →
    (∀ pre x T W1, pre ++ [x] <+: all → J pre T W1 → YieldAt F (n - 1) P l (encs x) W1 fun e W' => ∃ T', Turn (fun k => T k ∨ k = l) W1 T' W' ∧
      ((e = .returned (.bool true) ∧ J (pre ++ [x]) T' W') ∨ (e = .returned (.bool false) ∧ Jx (pre ++ [x]) T' W'))) →
    (∀ k, T0 k → ¬ X k) → J [] T0 W →
    CallsIn F n P g (#[.func (.yield l) #[] #[]] ++ lb) W fun e W' => (∃ v, e = .returned v) ∧ ∃ T', (J all T' W' ∨ (∃ pre, pre <+: all ∧ Jx pre T' W'))

/-- How the body of a round may be left. -/
def postZ {α : Type} (I : List α → Terr → World → Prop) (Ix : Code → List α → Terr → World → Prop) (xs : List α) (T : Terr) (W : World) : Exit → Act → World → Prop
  | .normal, _, W' => ∃ T', Turn T W T' W' ∧ I xs T' W'
  | .ret, _, W' => ∃ T', Turn T W T' W' ∧ Ix .ret xs T' W'
  | .exit id, _, W' => ∃ T', Turn T W T' W' ∧ Ix (.exit id) xs T' W'
  | .goto t, _, W' => ∃ T', Turn T W T' W' ∧ Ix (.goto t) xs T' W'
  | .panic _, _, _ => False
  | .outgrown, _, _ => False

variable {F : Fence} {n : Nat} {P : Program}
/-- The statement 'for .. := range g' outside of any round. -/
theorem wpIn_rangeFunc_Z {α : Type} {g : Operand} {ps : Array Tmp} {assign body : Code} {Q : Exit → Act → World → Prop} {a : Act} {w : World}
    (hro : F.round = none) (h1 : F.depth.isSome = true → 1 ≤ n) {gf : Nat} {lb : Array Value} (hg : a.eval g = .func (.func gf) #[] lb) (hFg : F.fn gf) (eg : ∀ args w, (callFunc gf args).run P w = .ok (.enter gf args) w)
    {encs : α → Array Value} {X Z : Terr} {all : List α} {w0 : World} (hseq : SeqZ F (n - 1) P gf lb encs X Z all w0)
    (hb0 : Below w0.heap.size w0 w) (hps : ∀ x, (encs x).size = ps.size) (hZ : ∀ k, Z k → k < w.heap.size)
    (I : List α → Terr → World → Prop) (Ix : Code → List α → Terr → World → Prop) (M : List α → α → Act → Terr → World → Prop) (T0 : Terr)
    (hI : Stab w.heap.size Z I) (hIx : ∀ c, Stab w.heap.size Z (Ix c)) (hM : ∀ pre x a', Stab w.heap.size Z (fun (_ : Unit) T W => M pre x a' T W)) (hIT : ∀ s T A, I s T A → ∀ k, T k → k < A.heap.size) (hT0 : ∀ k, T0 k → ¬ X k) (h0 : I [] T0 w)
    (hassign : ∀ (l : Nat) (pre : List α) (x : α) (T : Terr) (W : World), w.heap.size ≤ l → pre ++ [x] <+: all → w.heap.size ≤ W.heap.size → I pre T W →
      assign.wpIn (F.inRound l) (n - 1 - 1) P (Exit.then (fun a' W' => ∃ T', Turn T W T' W' ∧ M pre x a' T' W') (fun _ _ _ => False)) { tmps := (ps.zip (encs x)).foldl (fun t (p, v) => t.setIfInBounds p v) a.tmps, defers := [] } W)
    (hbody : ∀ (l : Nat) (pre : List α) (x : α) (a' : Act) (T : Terr) (W : World), w.heap.size ≤ l → pre ++ [x] <+: all → w.heap.size ≤ W.heap.size → M pre x a' T W → body.wpIn (F.inRound l) (n - 1 - 1) P (postZ I Ix (pre ++ [x]) T W) a' W)
    (hdone : ∀ (D : Nat) (T : Terr) (W : World), w.heap.size ≤ D → I all T W → ¬ T D → W.heap[D]? = some (.deferred (some [])) → Q .normal { a with defers := { target := .collected D, args := #[] } :: a.defers } W)
    (hstop : ∀ (D : Nat) (c : Code) (pre : List α) (T : Terr) (W : World), w.heap.size ≤ D → pre <+: all → Ix c pre T W → ¬ T D → W.heap[D]? = some (.deferred (some [])) → c.wpIn F n P Q { a with defers := { target := .collected D, args := #[] } :: a.defers } W) :
    (Code.rangeFunc g ps assign body).wpIn F n P Q a w := by
  refine wpIn_rangeFunc ?_
  intro fn hfn
  rw [hro]
  obtain ⟨rec, hrec⟩ : ∃ rec : LoopState → Option Code → Loop, rec = fun st pe => { state := st, pending := pe, fn, tmps := a.tmps, params := ps, assign, body, defers := w.heap.size } := ⟨_, rfl⟩
  obtain ⟨W1, hW1⟩ : ∃ W1, (w.alloc (.deferred (some []))).alloc (.loop (rec .ready none)) = W1 := ⟨_, rfl⟩
  have hL1 : W1.heap[w.heap.size + 1]? = some (.loop (rec .ready none)) := by
    rw [← hW1]; have := World.alloc_heap_new (w.alloc (.deferred (some []))) (.loop (rec .ready none)); rwa [World.size_alloc] at this
  have hK1 : W1.heap[w.heap.size]? = some (.deferred (some [])) := by
    rw [← hW1]; exact (Below.heap_alloc _ _ _ (by simp)).trans (World.alloc_heap_new w _)
  have hLi1 : ∀ T, Lies T w W1 := fun T => by rw [← hW1]; exact (Lies.alloc _ _ _).trans (Lies.alloc _ _ _)
  have hI1 : I [] T0 W1 := hI _ _ _ _ h0 (hLi1 _)
  have hT0w := hIT _ _ _ h0
  have hb1 : Below w0.heap.size w0 W1 := by
    rw [← hW1]; exact hb0.trans ((((Below.refl _ w).alloc (Nat.le_refl _) _).alloc (by simp) _).mono hb0.size)
  have hs1 : W1.heap.size = w.heap.size + 2 := by rw [← hW1]; simp
  have hZD : ¬ Z w.heap.size := fun h => absurd (hZ _ h) (by omega)
  have hZl : ¬ Z (w.heap.size + 1) := fun h => absurd (hZ _ h) (by omega)
  -- a step of the iterator: what is said of w's blocks, and the law's own two blocks, stand
  have hmonoL : ∀ {T : Terr} {A B : World}, Lies (fun k => T k ∨ (k < W1.heap.size ∧ ¬ Z k)) A B → Lies (fun k => T k ∨ (k < w.heap.size ∧ ¬ Z k)) A B := fun h => h.mono fun k hk => hk.imp id fun h => ⟨by omega, h.2⟩
  have hput : ∀ {T : Terr} {A : World} (hl : ¬ T (w.heap.size + 1)) (o : Obj), Lies (fun k => T k ∨ (k < w.heap.size ∧ ¬ Z k)) A (A.putObj (w.heap.size + 1) o) := fun hl o => Lies.putObj _ _ (fun h => h.elim hl fun h => by omega) o
  refine ⟨w.heap.size + 1, [{ target := .collected w.heap.size, args := #[] }], W1, { target := .fn (.func gf) lb, args := #[.func (.yield (w.heap.size + 1)) #[] #[]] }, W1, gf,
    #[.func (.yield (w.heap.size + 1)) #[] #[]] ++ lb, W1, ?_, ?_, ?_, ?_, h1, ?_⟩
  · rw [← hW1, hrec]; exact run_enterLoop_outer _ _ _ _ _
  · simp only [resolve, hg]
    simp [go_sem]
  · intro f' hf'; simp [Target.leads] at hf'; subst hf'; exact hFg
  · simp [invoke, go_sem, eg]
  · refine (hseq (w.heap.size + 1)
      (fun pre T W => (I pre T W ∧ ¬ T w.heap.size ∧ ¬ T (w.heap.size + 1)) ∧ W.heap[w.heap.size + 1]? = some (.loop (rec .ready none)) ∧ W.heap[w.heap.size]? = some (.deferred (some [])))
      (fun pre T W => ∃ c, (Ix c pre T W ∧ ¬ T w.heap.size ∧ ¬ T (w.heap.size + 1)) ∧ W.heap[w.heap.size + 1]? = some (.loop (rec .done (some c))) ∧ W.heap[w.heap.size]? = some (.deferred (some [])))
      T0 W1 hb1 (by have := hb0.size; omega) (by omega)
      (fun s T A B hs hli => by
        obtain ⟨⟨hi, hd, hl0⟩, hl, hk⟩ := hs
        exact ⟨⟨hI _ _ _ _ hi (hmonoL hli), hd, hl0⟩, (hli.block _ (Array.getElem?_eq_some_iff.1 hl).1 (.inr ⟨by omega, hZl⟩)).trans hl, (hli.block _ (Array.getElem?_eq_some_iff.1 hk).1 (.inr ⟨by omega, hZD⟩)).trans hk⟩)
      (fun s T A B hs hli => by
        obtain ⟨c, ⟨hi, hd, hl0⟩, hl, hk⟩ := hs
        exact ⟨c, ⟨hIx _ _ _ _ _ hi (hmonoL hli), hd, hl0⟩, (hli.block _ (Array.getElem?_eq_some_iff.1 hl).1 (.inr ⟨by omega, hZl⟩)).trans hl, (hli.block _ (Array.getElem?_eq_some_iff.1 hk).1 (.inr ⟨by omega, hZD⟩)).trans hk⟩)
      (fun s T A hs k hk => hIT _ _ _ hs.1.1 k hk)
      ?_ hT0
      ⟨⟨hI1, fun h => absurd (hT0w _ h) (by omega), fun h => absurd (hT0w _ h) (by omega)⟩, hL1, hK1⟩).mono ?_
    · -- one round
      rintro pre x T W hlen ⟨⟨hi, hd0, hl0⟩, hl, hk⟩
      have hlt : w.heap.size + 1 < W.heap.size := (Array.getElem?_eq_some_iff.1 hl).1
      have hy := run_yield (P := P) (args := encs x) hl (by rw [hrec]; exact hps x)
      rw [hrec] at hy
      refine ⟨fn, _, assign, body, hy, roundIn_of_wpIn hfn (wpIn_mono (hassign _ pre x T W (by omega) hlen (by omega) hi) ?_)⟩
      clear hy
      rintro e a' Wa hp
      cases e with
      | normal =>
        obtain ⟨Ta, hta, hm⟩ := hp
        have hla := (hta.block _ hlt hl0).trans hl
        have hka := (hta.block _ (by omega) hd0).trans hk
        have hda : ¬ Ta w.heap.size := fun h => (hta.sub _ h).elim hd0 (fun h => by omega)
        have hla0 : ¬ Ta (w.heap.size + 1) := fun h => (hta.sub _ h).elim hl0 (fun h => by omega)
        have hlta : w.heap.size + 1 < Wa.heap.size := (Array.getElem?_eq_some_iff.1 hla).1
        refine ⟨_, run_beginRound hla (by rw [hrec]), ?_⟩
        obtain ⟨W2, hW2⟩ : ∃ W2, W2 = Wa.putObj (w.heap.size + 1) (.loop { rec .ready none with state := .busy }) := ⟨_, rfl⟩
        have hl2 : W2.heap[w.heap.size + 1]? = some (.loop { rec .ready none with state := .busy }) := by rw [hW2]; exact World.putObj_heap_same hlta
        have hk2 : W2.heap[w.heap.size]? = some (.deferred (some [])) := by rw [hW2]; exact (World.putObj_heap_other (by omega)).trans hka
        have hli2 : Lies (fun k => Ta k ∨ (k < w.heap.size ∧ ¬ Z k)) Wa W2 := by rw [hW2]; exact hput hla0 _
        have hz2 : W2.heap.size = Wa.heap.size := by rw [hW2]; simp
        have ho2 : ∀ k, k ≠ w.heap.size + 1 → W2.heap[k]? = Wa.heap[k]? := fun k hk => by rw [hW2]; exact World.putObj_heap_other hk
        have hm2 : M pre x a' Ta W2 := hM pre x a' () _ _ _ hm hli2
        rw [← hW2]
        refine wpIn_mono (hbody _ pre x a' Ta W2 (by omega) hlen (by omega) hm2) ?_
        have fin : ∀ (jump : Option Code) (T3 : Terr) (W3 : World), Turn Ta W2 T3 W3 →
            (Instr.endRound (w.heap.size + 1) jump).run P W3 = .ok (.bool jump.isNone) (W3.putObj (w.heap.size + 1) (.loop (rec (if jump.isNone then .ready else .done) jump))) ∧
            (¬ T3 w.heap.size ∧ ¬ T3 (w.heap.size + 1)) ∧ Lies (fun k => T3 k ∨ (k < w.heap.size ∧ ¬ Z k)) W3 (W3.putObj (w.heap.size + 1) (.loop (rec (if jump.isNone then .ready else .done) jump))) ∧
            Turn (fun k => T k ∨ k = w.heap.size + 1) W T3 (W3.putObj (w.heap.size + 1) (.loop (rec (if jump.isNone then .ready else .done) jump))) ∧
            (W3.putObj (w.heap.size + 1) (.loop (rec (if jump.isNone then .ready else .done) jump))).heap[w.heap.size + 1]? = some (.loop (rec (if jump.isNone then .ready else .done) jump)) ∧
            (W3.putObj (w.heap.size + 1) (.loop (rec (if jump.isNone then .ready else .done) jump))).heap[w.heap.size]? = some (.deferred (some [])) := fun jump T3 W3 ht3 => by
          have hl3 := (ht3.block _ (by omega) hla0).trans hl2
          have hd3 : ¬ T3 w.heap.size := fun h => (ht3.sub _ h).elim hda (fun h => by omega)
          have hl30 : ¬ T3 (w.heap.size + 1) := fun h => (ht3.sub _ h).elim hla0 (fun h => by omega)
          have hrun := run_endRound (P := P) jump hl3
          rw [hrec] at hrun ⊢
          have hlt3 := (Array.getElem?_eq_some_iff.1 hl3).1
          refine ⟨hrun, ⟨hd3, hl30⟩, hput hl30 _, ⟨?_, ?_, ?_, ?_, ?_, ?_⟩, World.putObj_heap_same hlt3, (World.putObj_heap_other (by omega)).trans ((ht3.block _ (by omega) hda).trans hk2)⟩
          · exact ht3.os.trans (hli2.os.trans hta.os)
          · exact ht3.tape.trans (hli2.tape.trans hta.tape)
          · exact ht3.output.trans (hli2.output.trans hta.output)
          · have h3 := ht3.size; have h4 := hta.size; simp; omega
          · intro k hk hnt
            have hn1 : ¬ T k := fun h => hnt (.inl h)
            have hn2 : k ≠ w.heap.size + 1 := fun h => hnt (.inr h)
            have hs := hta.size
            have hna : ¬ Ta k := fun h => (hta.sub _ h).elim hn1 (fun h => by omega)
            exact (World.putObj_heap_other hn2).trans ((ht3.block k (by omega) hna).trans ((ho2 k hn2).trans (hta.block k hk hn1)))
          · intro k hk
            have hs := hta.size
            rcases ht3.sub k hk with h | h
            · rcases hta.sub k h with h | h
              · exact .inl (.inl h)
              · exact .inr h
            · exact .inr (by omega)
        rintro e a3 W3 hp
        cases e with
        | normal =>
          obtain ⟨T3, ht3, hi3⟩ := hp
          obtain ⟨hr, hn3, hli3, htu, hl4, hk4⟩ := fin none T3 W3 ht3
          exact ⟨_, _, hr, T3, htu, .inl ⟨rfl, ⟨hI _ _ _ _ hi3 hli3, hn3⟩, hl4, hk4⟩⟩
        | ret =>
          obtain ⟨T3, ht3, hi3⟩ := hp
          obtain ⟨hr, hn3, hli3, htu, hl4, hk4⟩ := fin (some .ret) T3 W3 ht3
          exact ⟨_, _, hr, T3, htu, .inr ⟨rfl, .ret, ⟨hIx _ _ _ _ _ hi3 hli3, hn3⟩, hl4, hk4⟩⟩
        | exit id =>
          obtain ⟨T3, ht3, hi3⟩ := hp
          obtain ⟨hr, hn3, hli3, htu, hl4, hk4⟩ := fin (some (.exit id)) T3 W3 ht3
          exact ⟨_, _, hr, T3, htu, .inr ⟨rfl, .exit id, ⟨hIx _ _ _ _ _ hi3 hli3, hn3⟩, hl4, hk4⟩⟩
        | goto t =>
          obtain ⟨T3, ht3, hi3⟩ := hp
          obtain ⟨hr, hn3, hli3, htu, hl4, hk4⟩ := fin (some (.goto t)) T3 W3 ht3
          exact ⟨_, _, hr, T3, htu, .inr ⟨rfl, .goto t, ⟨hIx _ _ _ _ _ hi3 hli3, hn3⟩, hl4, hk4⟩⟩
        | panic ch => exact hp.elim
        | outgrown => exact hp.elim
      | exit id => exact hp.elim
      | goto t => exact hp.elim
      | ret => exact hp.elim
      | panic chain => exact hp.elim
      | outgrown => exact hp.elim
    · -- behind the iterator
      rintro e W2 ⟨⟨v, rfl⟩, T, (⟨⟨hi, hd0, hl0⟩, hl, hk⟩ | ⟨pre, hSp, c, ⟨hi, hd0, hl0⟩, hl, hk⟩)⟩
      · exact ⟨none, _, by have := run_endLoop (P := P) hl (by rw [hrec]; simp); rw [hrec] at this; exact this, hdone _ T _ (Nat.le_refl _) (hI _ _ _ _ hi (hput hl0 _)) hd0 ((World.putObj_heap_other (by omega)).trans hk)⟩
      · exact ⟨some c, _, by have := run_endLoop (P := P) hl (by rw [hrec]; simp); rw [hrec] at this; exact this, hstop _ c pre T _ (Nat.le_refl _) hSp (hIx c _ _ _ _ hi (hput hl0 _)) hd0 ((World.putObj_heap_other (by omega)).trans hk)⟩
end Go.Proofs.YtmaifldiondchaaDoor
