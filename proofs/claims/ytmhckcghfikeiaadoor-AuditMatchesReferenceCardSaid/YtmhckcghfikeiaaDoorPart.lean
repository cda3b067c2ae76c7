/- A row stored into a part of a known block. No program is named here. -/
import Derived.Test.YtmhckcghfikeiaaDoorSetRow0
namespace Go.Proofs.YtmhckcghfikeiaaDoor
open Go.RowKit
theorem part_eq (pre mid post new : List Value) (hl : mid.length = new.length) :
    ((new.zipIdx pre.length).foldl (fun (cs : Array Value) (x : Value × Nat) => cs.setIfInBounds x.2 x.1) (pre ++ mid ++ post).toArray) = (pre ++ new ++ post).toArray := by
  apply Array.ext_getElem?
  intro i
  rw [set_many]
  simp only [List.getElem?_toArray, List.size_toArray, List.length_append]
  split
  · rename_i h
    rw [List.append_assoc, List.getElem?_append_right (by omega), List.getElem?_append_left (by omega)]
  · rename_i h
    rcases Nat.lt_or_ge i pre.length with h1 | h1
    · rw [List.append_assoc, List.getElem?_append_left h1, List.append_assoc, List.getElem?_append_left h1]
    · rw [List.append_assoc, List.append_assoc, List.getElem?_append_right h1, List.getElem?_append_right h1]
      rcases Nat.lt_or_ge (i - pre.length) new.length with h2 | h2
      · have : ¬ i < pre.length + mid.length + post.length := fun h3 => h ⟨h1, by omega, h3⟩
        omega
      · rw [List.getElem?_append_right (by omega), List.getElem?_append_right (by omega), hl]
theorem there_blk {w : World} {g : Nat} {t : TypeId} {cs : Array Value} (h : Blk w g t cs) (o n : Nat) (hn : o + n ≤ cs.size) : w.there g o n := fun j hj => by
  refine ⟨?_, h.frozen _⟩
  rw [h.cell, Array.getElem?_eq_getElem (by omega)]; rfl
/-- The world behind a store into a part of block g. -/
theorem setCells_part {w : World} {g : Nat} {t : TypeId} (pre mid post new : List Value) (hB : Blk w g t (pre ++ mid ++ post).toArray) (hl : mid.length = new.length) :
    Blk (w.setCells g pre.length new) g t (pre ++ new ++ post).toArray ∧ Off g w (w.setCells g pre.length new) ∧ (w.setCells g pre.length new).heap.size = w.heap.size := by
  have h1 := setCells_blk new pre.length w _ hB
  rw [part_eq pre mid post new hl] at h1
  have h2 := (setCells_below (Nat.le_refl g) new pre.length w)
  exact ⟨h1, ⟨h2.1.os, h2.1.tape, h2.1.output, by omega, fun k _ hk => setCells_other hk new pre.length w⟩, h2.2⟩
theorem stPart {P : Program} {ops : Array Oper} {rest : List Oper} {o : Oper} {a : Act} {w : World} {Q : Exit → Act → World → Prop} (ty : TypeId) (x y : Operand) (ho : o.op = .store ty x y) (hw : Region.wanted o (yielded ops a.tmps) = true)
    {g t : Nat} (pre mid post new : List Value) (hx : a.eval x = .pointer (some ⟨g, pre.length, none⟩)) (hy : a.eval y = .agg new.toArray) (hB : Blk w g t (pre ++ mid ++ post).toArray)
    (hi : (P.info? ty).map (·.size) = some new.length) (hl : mid.length = new.length) (h1 : ∀ u ∈ new, u.oneCell' = true)
    (h : ∀ w2, Blk w2 g t (pre ++ new ++ post).toArray → Off g w w2 → w2.heap.size = w.heap.size → wpList P ops Q rest (a.put o.dst undef) w2) :
    wpList P ops Q (o :: rest) a w :=
  wpList_step fun K hK => by
    rw [if_pos hw]
    refine wp_store_mid ty x y ho g pre.length new.toArray hx hy (there_blk hB _ _ (by simp; omega)) (by simpa using hi) (all_oneCell_toArray h1) ?_
    rw [List.toList_toArray]
    obtain ⟨h2, h3, h4⟩ := setCells_part pre mid post new hB hl
    exact hK _ _ (h _ h2 h3 h4)
theorem setIf_app (xs ys : List Value) (j : Nat) (u : Value) : (xs ++ ys).toArray.setIfInBounds (xs.length + j) u = (xs ++ ys.set j u).toArray := by
  rw [List.setIfInBounds_toArray, List.set_append_right _ _ (by omega), Nat.add_sub_cancel_left]
theorem Blk.set_app {w : World} {g : Nat} {t : TypeId} {xs ys : List Value} (h : Blk w g t (xs ++ ys).toArray) (n : Nat) (hn : xs.length = n) (j : Nat) (u : Value) : Blk (w.setCell ⟨g, n + j, none⟩ u) g t (xs ++ ys.set j u).toArray := by
  subst hn
  have := h.set_ (xs.length + j) u
  rwa [setIf_app] at this
/-- A struct built out of parts. -/
theorem bd {P : Program} {ops : Array Oper} {rest : List Oper} {o : Oper} {a : Act} {w : World} {Q : Exit → Act → World → Prop} (t : TypeId) (parts : Array (Nat × Operand)) (ho : o.op = .build t parts) (hg : o.guard = none)
    {vs : List (Nat × Value)} {cells : Array Value} (hv : (parts.toList.map fun (i, x) => (i, a.eval x)) = vs) (hb : P.built t vs = some cells)
    (h : wpList P ops Q rest (a.put o.dst (.agg cells)) w) : wpList P ops Q (o :: rest) a w := by
  rw [← Array.toList_map] at hv
  refine wpList_build hg t parts ho (by rw [hv, hb]; rfl) ?_
  rw [hv, hb]
  exact h
end Go.Proofs.YtmhckcghfikeiaaDoor
