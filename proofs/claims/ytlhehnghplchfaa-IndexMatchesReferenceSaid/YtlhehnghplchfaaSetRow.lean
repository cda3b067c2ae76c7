/- A struct stored into an element of a row of the call's own. -/
import Derived.Test.YtlhehnghplchfaaEnt
import Derived.Test.YtlhehnghplchfaaElems
import Derived.Test.YtlhehnghplchfaaMem
namespace Go.Proofs.Ytlhehnghplchfaa
open Go.RowKit
theorem setCells_blk {b : Nat} {t : TypeId} : ∀ (vs : List Value) (o : Nat) (w : World) (cur : Array Value), Blk w b t cur → Blk (w.setCells b o vs) b t ((vs.zipIdx o).foldl (fun (cs : Array Value) (x : Value × Nat) => cs.setIfInBounds x.2 x.1) cur)
  | [], _, _, _, h => h
  | v :: r, o, w, cur, h => by
    rw [World.setCells, List.zipIdx_cons, List.foldl_cons]
    exact setCells_blk r (o + 1) _ _ (h.set_ o v)
theorem setCells_below {b B : Nat} (hB : B ≤ b) : ∀ (vs : List Value) (o : Nat) (w : World), Below B w (w.setCells b o vs) ∧ (w.setCells b o vs).heap.size = w.heap.size
  | [], _, w => ⟨Below.refl _ _, rfl⟩
  | v :: r, o, w => by
    rw [World.setCells]
    obtain ⟨h1, h2⟩ := setCells_below hB r (o + 1) (w.setCell ⟨b, o, none⟩ v)
    have h0 : Below B w (w.setCell ⟨b, o, none⟩ v) := ⟨rfl, rfl, rfl, by simp, fun k hk => Below.heap_setCell w ⟨b, o, none⟩ v k (by show k ≠ b; omega)⟩
    exact ⟨h0.trans h1, h2.trans (by simp)⟩
theorem setCells_other {b k : Nat} (hk : k ≠ b) : ∀ (vs : List Value) (o : Nat) (w : World), (w.setCells b o vs).heap[k]? = w.heap[k]?
  | [], _, _ => rfl
  | v :: r, o, w => by
    rw [World.setCells, setCells_other hk r (o + 1) (w.setCell ⟨b, o, none⟩ v)]
    exact Below.heap_setCell w ⟨b, o, none⟩ v k hk
theorem own_set {α : Type} (C : α → List Value) (Ok : α → Prop) (s : Nat) (hlen : ∀ r, Ok r → (C r).length = s) {w : World} {base e g cap : Nat} {L : List α} (hown : w.ownsRow base e s (.slice (some ⟨g, 0, none⟩) L.length cap) L.length (L.flatMap C)) (hok : ∀ r ∈ L, Ok r) (k : Nat) (hk : k < L.length) (p : α) (hp : Ok p) :
    (w.setCells g (k * s) (C p)).ownsRow base e s (.slice (some ⟨g, 0, none⟩) L.length cap) (L.set k p).length ((L.set k p).flatMap C) ∧ w.there g (k * s) (C p).length ∧ base ≤ g := by
  obtain ⟨hl, h | ⟨g', cap', cur, hv, hb, hh, hc1, hm, hcs, htk⟩⟩ := hown
  · cases h.1
  · injection hv with hv1 _ hv2
    injection hv1 with hv1
    injection hv1 with hv1 _ _
    subst hv1 hv2
    have hB : Blk w g e cur := hh
    have hcp := hlen p hp
    have hlk := hlen L[k] (hok _ (List.getElem_mem hk))
    have e1 : L.flatMap C = (L.take k).flatMap C ++ (C L[k] ++ (L.drop (k + 1)).flatMap C) := by
      conv => lhs; rw [← List.take_append_drop k L, List.drop_eq_getElem_cons hk]
      rw [List.flatMap_append, List.flatMap_cons]
    have e2 : (L.set k p).flatMap C = (L.take k).flatMap C ++ (C p ++ (L.drop (k + 1)).flatMap C) := by
      rw [List.set_eq_take_append_cons_drop, if_pos hk, List.flatMap_append, List.flatMap_cons]
    have h1 := flat_length C Ok s hlen (L.take k) (fun r hr => hok r (List.mem_of_mem_take hr))
    rw [List.length_take, Nat.min_eq_left (by omega)] at h1
    have hks : k * s + s ≤ L.length * s := by
      have := Nat.mul_le_mul_right s (show k + 1 ≤ L.length from hk)
      rw [Nat.add_mul, Nat.one_mul] at this; exact this
    have hLc := Nat.mul_le_mul_right s hc1
    have hl1 := hl
    rw [e1] at htk
    refine ⟨⟨?_, .inr ⟨g, cap, _, by rw [List.length_set], hb, setCells_blk (C p) (k * s) w cur hB, by rw [List.length_set]; exact hc1, hm, by rw [build_size]; exact hcs, ?_⟩⟩, fun j hj => ⟨?_, hB.frozen _⟩, hb⟩
    · rw [e2, List.length_set]
      rw [e1] at hl
      simp only [List.length_append] at hl ⊢
      omega
    · rw [List.length_set, e2]
      apply List.ext_getElem?
      intro i
      have hold : ((L.take k).flatMap C ++ (C L[k] ++ (L.drop (k + 1)).flatMap C))[i]? = if i < L.length * s then cur[i]? else none := by
        rw [← htk, List.getElem?_take]; simp
      rw [List.getElem?_take, Array.getElem?_toList, set_many, hcp]
      by_cases i1 : i < k * s
      · rw [if_pos (by omega), if_neg (by omega), List.getElem?_append_left (by omega)]
        rw [List.getElem?_append_left (by omega), if_pos (by omega)] at hold
        exact hold.symm
      · rw [List.getElem?_append_right (by omega), h1]
        rw [List.getElem?_append_right (by omega), h1] at hold
        by_cases i2 : i < k * s + s
        · rw [if_pos (by omega), if_pos (by omega), List.getElem?_append_left (by omega)]
        · rw [List.getElem?_append_right (by omega)] at hold ⊢
          rw [hcp]
          rw [hlk] at hold
          rw [hold]
          by_cases i3 : i < L.length * s
          · rw [if_pos i3, if_pos i3, if_neg (by omega)]
          · rw [if_neg i3, if_neg i3]
    · rw [hB.cell]
      have : k * s + j < cur.size := by omega
      simp [this]
/-- The store. -/
theorem stOwn {P : Program} {ops : Array Oper} {rest : List Oper} {o : Oper} {a : Act} {w : World} {Q : Exit → Act → World → Prop} {α : Type} (C : α → List Value) (Ok : α → Prop) (s : Nat) (hlen : ∀ r, Ok r → (C r).length = s) (ty : TypeId) (x y : Operand) (ho : o.op = .store ty x y) (hw : Region.wanted o (yielded ops a.tmps) = true)
    {base e g cap off : Nat} {L : List α} {p : α} {k : Nat} {cs : Array Value} (hx : a.eval x = .pointer (some ⟨g, off, none⟩)) (hoff : off = k * s) (hy : a.eval y = .agg cs) (hcs : cs = (C p).toArray)
    (hown : w.ownsRow base e s (.slice (some ⟨g, 0, none⟩) L.length cap) L.length (L.flatMap C)) (hok : ∀ r ∈ L, Ok r) (hk : k < L.length) (hp : Ok p)
    (hi : (P.info? ty).map (·.size) = some s) (h1 : ∀ u ∈ C p, u.oneCell' = true)
    (h : ∀ w2, w2.ownsRow base e s (.slice (some ⟨g, 0, none⟩) L.length cap) (L.set k p).length ((L.set k p).flatMap C) → Below base w w2 → w2.heap.size = w.heap.size → wpList P ops Q rest (a.put o.dst undef) w2) :
    wpList P ops Q (o :: rest) a w :=
  wpList_step fun K hK => by
    rw [if_pos hw]
    subst hcs hoff
    obtain ⟨q1, q2, q3⟩ := own_set C Ok s hlen hown hok k hk p hp
    have hcp := hlen p hp
    refine wp_store_mid ty x y ho g (k * s) (C p).toArray hx hy (by simpa using q2) (by rw [hi]; simp [hcp]) (all_oneCell_toArray h1) ?_
    rw [List.toList_toArray]
    obtain ⟨b1, b2⟩ := setCells_below q3 (C p) (k * s) w
    exact hK _ _ (h _ q1 b1 b2)
end Go.Proofs.Ytlhehnghplchfaa
