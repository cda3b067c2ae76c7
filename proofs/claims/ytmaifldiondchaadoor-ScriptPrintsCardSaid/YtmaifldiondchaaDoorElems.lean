/- A slice of structs that came in, read element by element. No program is named here. -/
import Derived.Test.YtmaifldiondchaaDoorMem
import Derived.Deep.Slices
import Derived.OpenShut
namespace Go.Proofs.YtmaifldiondchaaDoor
open Go.RowKit Go.ChangeShapes Go.WideShapes Go.Deep
section
variable {P : Program} {H : Type} {enc : TypeId × Value → H} {w : World} {base : Nat} {held : Bool} {α : Type}
theorem flat_length (C : α → List Value) (Ok : α → Prop) (s : Nat) (hlen : ∀ r, Ok r → (C r).length = s) : ∀ l : List α, (∀ r ∈ l, Ok r) → (l.flatMap C).length = l.length * s
  | [], _ => by simp
  | r :: l, h => by
    have := flat_length C Ok s hlen l (fun r hr => h r (by simp [hr]))
    simp [List.flatMap_cons, hlen r (h r (by simp)), this, Nat.add_mul]
    omega
theorem open_elems (C : α → List Value) (Ok : α → Prop) (s : Nat) (hs : 0 < s) (hlen : ∀ r, Ok r → (C r).length = s) {t e : TypeId} (ht : P.underlying t = some (.slice e)) (hC : P.cellsOf e = s)
    (helem : ∀ (fuel : Nat) (cs : List Value) (x : DataW H × List MemPlace), DataW.trod enc P w base (fun _ => true) held fuel e cs = some x → ∃ r, Ok r ∧ cs = C r)
    {fuel : Nat} {A : Option Addr} {len cap : Nat} {x : DataW H × List MemPlace} (h : DataW.trod enc P w base (fun _ => true) held fuel t [.slice A len cap] = some x) :
    ∃ l : List α, l.length = len ∧ (∀ r ∈ l, Ok r) ∧ Sn w s (.slice A len cap) len (l.flatMap C) := by
  rcases open_slice ht h with ⟨h0, _⟩ | ⟨a, len', cap', m, n, D, Pl, hcs, hb, hl, hm, hmm, _, hi⟩
  · simp only [List.cons.injEq, Value.slice.injEq, and_true] at h0
    obtain ⟨rfl, rfl, rfl⟩ := h0
    exact ⟨[], rfl, fun _ h => (by cases h), ⟨none, 0, rfl, Nat.le_refl _, by simp, fun h => absurd h (by omega)⟩⟩
  · simp only [List.cons.injEq, Value.slice.injEq, and_true] at hcs
    obtain ⟨rfl, rfl, rfl⟩ := hcs
    simp only [if_true] at hmm
    subst hmm
    rw [hC] at hi
    have key : ∀ k, k ≤ len → ∃ l : List α, l.length = k ∧ (∀ r ∈ l, Ok r) ∧ ∀ j u, (l.flatMap C)[j]? = some u → w.cell? (a.add j) = some u := by
      intro k
      induction k with
      | zero => exact fun _ => ⟨[], rfl, fun _ h => (by cases h), fun j u h => by simp at h⟩
      | succ k ih =>
        intro hk
        obtain ⟨l, hll, hok, hc⟩ := ih (by omega)
        obtain ⟨cs', hcs', ht'⟩ := hi k (by omega)
        obtain ⟨r, hr, rfl⟩ := helem _ _ _ ht'
        obtain ⟨_, hlen', hat⟩ := World.cells?_some hcs'
        have hfl := flat_length C Ok s hlen l hok
        rw [hll] at hfl
        refine ⟨l ++ [r], by simp [hll], fun r' hr' => ?_, fun j u hj => ?_⟩
        · rcases List.mem_append.1 hr' with h1 | h1
          · exact hok r' h1
          · simp at h1; subst h1; exact hr
        · rw [List.flatMap_append] at hj
          by_cases hjk : j < k * s
          · rw [List.getElem?_append_left (by omega)] at hj
            exact hc j u hj
          · rw [List.getElem?_append_right (by omega), hfl] at hj
            simp only [List.flatMap_cons, List.flatMap_nil, List.append_nil] at hj
            have hlt : j - k * s < s := by
              have := (List.getElem?_eq_some_iff.1 hj).1
              rw [hlen r hr] at this; exact this
            have := hat (j - k * s) hlt
            rw [Go.Deep.add_add, show k * s + (j - k * s) = j from by omega] at this
            rw [this]; exact hj
    obtain ⟨l, hll, hok, hc⟩ := key len (Nat.le_refl _)
    have hfl := flat_length C Ok s hlen l hok
    rw [hll] at hfl
    refine ⟨l, hll, hok, some a, _, rfl, hl, hfl, fun hp => ?_⟩
    obtain ⟨b, off, spot⟩ := a
    have hne : ∃ u, (l.flatMap C)[0]? = some u := by
      have : 0 < (l.flatMap C).length := by rw [hfl]; exact Nat.mul_pos hp hs
      exact ⟨_, List.getElem?_eq_getElem this⟩
    obtain ⟨u, hu⟩ := hne
    have hspot : spot = none := by simpa [Addr.add] using World.cell?_spot (hc 0 u hu)
    subst hspot
    refine ⟨b, off, rfl, fun j u hj => ?_⟩
    have := hc j u hj
    by_cases hj0 : j = 0
    · subst hj0; simpa [Addr.add] using this
    · simpa [Addr.add, hj0] using this
/-- The cells of element k. -/
theorem at_elem (C : α → List Value) (Ok : α → Prop) (s : Nat) (hlen : ∀ r, Ok r → (C r).length = s) {A : Option Addr} {cap : Nat} {l : List α} (h : Sn w s (.slice A l.length cap) l.length (l.flatMap C)) (hok : ∀ r ∈ l, Ok r) (k : Nat) (hk : k < l.length) :
    ∃ b off, A = some ⟨b, off, none⟩ ∧ ∀ j u, (C l[k])[j]? = some u → w.cell? ⟨b, off + k * s + j, none⟩ = some u := by
  obtain ⟨A', cap', hv, hc, hl, hx⟩ := h
  injection hv with hA _ _
  subst hA
  obtain ⟨b, off, rfl, hcell⟩ := hx (by omega)
  refine ⟨b, off, rfl, fun j u hj => ?_⟩
  have h1 := flat_length C Ok s hlen (l.take k) (fun r hr => hok r (List.mem_of_mem_take hr))
  rw [List.length_take, Nat.min_eq_left (by omega)] at h1
  have key : (l.flatMap C)[k * s + j]? = some u := by
    have e : l.flatMap C = (l.take k).flatMap C ++ (C l[k] ++ (l.drop (k + 1)).flatMap C) := by
      conv => lhs; rw [← List.take_append_drop k l, List.drop_eq_getElem_cons hk]
      rw [List.flatMap_append, List.flatMap_cons]
    rw [e, List.getElem?_append_right (by omega), h1, Nat.add_sub_cancel_left, List.getElem?_append_left]
    · exact hj
    · exact (List.getElem?_eq_some_iff.1 hj).1
  have := hcell (k * s + j) u key
  rw [← Nat.add_assoc] at this
  exact this
end
end Go.Proofs.YtmaifldiondchaaDoor
