/- tollref20.Put: plain laws. -/
import Derived.Test.YtlhehnghplchfaaCount
namespace Go.Proofs.Ytlhehnghplchfaa
/-- One step of Put's loop. -/
def putStep (e : List Int × Int) (s : List (List Int × Int) × Bool) (q : List Int × Int) : List (List Int × Int) × Bool :=
  let s' := if !s.2 && decide (cmpE e q < 0) then (s.1 ++ [e], true) else s
  (if decide (q.1 = e.1) then s'.1 else s'.1 ++ [q], s'.2)
def blocks (e q : List Int × Int) : Bool := decide (q.1 = e.1) && decide (e.2 ≤ q.2)
def putS (L : List (List Int × Int)) (e : List Int × Int) : List (List Int × Int) × Bool := L.foldl (putStep e) ([], false)
def refPut (L : List (List Int × Int)) (e : List Int × Int) : List (List Int × Int) × Bool :=
  if L.any (blocks e) then (L, false) else (if (putS L e).2 then (putS L e).1 else (putS L e).1 ++ [e], true)
theorem putS_snoc (L : List (List Int × Int)) (e : List Int × Int) (k : Nat) (h : k < L.length) : putS (L.take (k + 1)) e = putStep e (putS (L.take k) e) L[k] := by
  unfold putS
  rw [List.take_succ_eq_append_getElem h, List.foldl_append]
  rfl
theorem putS_len (L : List (List Int × Int)) (e : List Int × Int) : (putS L e).1.length ≤ L.length + 1 ∧ ((putS L e).2 = false → (putS L e).1.length ≤ L.length) := by
  unfold putS
  have key : ∀ (L : List (List Int × Int)) (s : List (List Int × Int) × Bool) (n : Nat), s.1.length ≤ n + 1 → (s.2 = false → s.1.length ≤ n) → (L.foldl (putStep e) s).1.length ≤ n + L.length + 1 ∧ ((L.foldl (putStep e) s).2 = false → (L.foldl (putStep e) s).1.length ≤ n + L.length) := by
    intro L
    induction L with
    | nil => intro s n h h'; exact ⟨by simpa using h, by simpa using h'⟩
    | cons q L ih =>
      intro s n h h'
      rw [List.foldl_cons]
      have := ih (putStep e s q) (n + 1) (by
        obtain ⟨o, p⟩ := s
        unfold putStep
        cases p <;> (simp only [Bool.not_true, Bool.not_false, Bool.false_and, Bool.true_and] at *; repeat' split) <;> simp at * <;> omega) (by
        obtain ⟨o, p⟩ := s
        unfold putStep
        cases p <;> (simp only [Bool.not_true, Bool.not_false, Bool.false_and, Bool.true_and] at *; repeat' split) <;> simp at * <;> omega)
      simp only [List.length_cons]
      exact ⟨by omega, fun hf => by have := this.2 hf; omega⟩
  have := key L ([], false) 0 (by simp) (by simp)
  simpa using this
theorem refPut_len (L : List (List Int × Int)) (e : List Int × Int) : (refPut L e).1.length ≤ L.length + 1 := by
  have := putS_len L e
  unfold refPut
  split
  · simp
  · split
    · exact this.1
    · rename_i h
      have := this.2 (by simpa using h)
      simp; omega
theorem cmpE_lt_trans {p q r : List Int × Int} (h : cmpE p q < 0) (h' : cmpE q r < 0) : cmpE p r < 0 := by
  have h3 := cmpE_trans p q r (by omega) (by omega)
  have hne : cmpE p r ≠ 0 := fun e => by
    have e' := (cmpE_zero _ _).1 e
    subst e'
    have := cmpE_neg p q
    omega
  omega
theorem put_go (e : List Int × Int) : ∀ (rest out : List (List Int × Int)) (placed : Bool), rest.Pairwise (fun p q => cmpE p q < 0) → out.Pairwise (fun p q => cmpE p q < 0) → (∀ x ∈ out, ∀ y ∈ rest, cmpE x y < 0) → (placed = false → ∀ x ∈ out, cmpE x e < 0) →
    (∀ q ∈ rest, q.1 = e.1 → q.2 < e.2) → (placed = true → ∀ q ∈ rest, cmpE e q < 0) →
    let s := rest.foldl (putStep e) (out, placed)
    let r := if s.2 then s.1 else s.1 ++ [e]
    r.Pairwise (fun p q => cmpE p q < 0) ∧ ∀ x, x ∈ r ↔ x ∈ out ∨ (placed = false ∧ x = e) ∨ (x ∈ rest ∧ x.1 ≠ e.1)
  | [], out, placed, _, ho, _, hp, _, _ => by
    cases placed with
    | true => simpa using ho
    | false =>
      simp only [List.foldl_nil, Bool.false_eq_true, if_false]
      refine ⟨List.pairwise_append.2 ⟨ho, by simp, fun x hx y hy => ?_⟩, fun x => by simp⟩
      obtain rfl : y = e := by simpa using hy
      exact hp rfl x hx
  | q :: rest, out, placed, hr, ho, hor, hp, hb, hpl => by
    rw [List.foldl_cons]
    rw [List.pairwise_cons] at hr
    have hqd : q.1 = e.1 → cmpE q e < 0 := fun hd => by
      have := hb q (by simp) hd
      unfold cmpE cmpI
      simp [this]
    -- the state behind q
    by_cases hplace : placed = false ∧ cmpE e q < 0
    · obtain ⟨rfl, hlt⟩ := hplace
      have hne : ¬ q.1 = e.1 := fun hd => by
        have h1 := hqd hd
        have := cmpE_neg q e
        omega
      have hst : putStep e (out, false) q = (out ++ [e] ++ [q], true) := by
        unfold putStep
        simp [hlt, hne]
      rw [hst]
      have hall : ∀ y ∈ rest, cmpE e y < 0 := fun y hy => cmpE_lt_trans hlt (hr.1 y hy)
      have := put_go e rest (out ++ [e] ++ [q]) true hr.2 (by
          refine List.pairwise_append.2 ⟨List.pairwise_append.2 ⟨ho, by simp, fun x hx y hy => ?_⟩, by simp, fun x hx y hy => ?_⟩
          · obtain rfl : y = e := by simpa using hy
            exact hp rfl x hx
          · obtain rfl : y = q := by simpa using hy
            rcases List.mem_append.1 hx with hx | hx
            · exact hor x hx y (by simp)
            · obtain rfl : x = e := by simpa using hx
              exact hlt) (fun x hx y hy => by
          rcases List.mem_append.1 hx with hx | hx
          · rcases List.mem_append.1 hx with hx | hx
            · exact hor x hx y (by simp [hy])
            · obtain rfl : x = e := by simpa using hx
              exact hall y hy
          · obtain rfl : x = q := by simpa using hx
            exact hr.1 y hy) (fun h => by simp at h) (fun x hx => hb x (by simp [hx])) (fun _ => hall)
      refine ⟨this.1, fun x => (this.2 x).trans ?_⟩
      simp only [List.mem_append, List.mem_cons, List.not_mem_nil, or_false, Bool.true_eq_false, false_and, false_or, true_and]
      constructor
      · rintro (((h | h) | h) | ⟨h, h'⟩)
        · exact .inl h
        · exact .inr (.inl h)
        · subst h; exact .inr (.inr ⟨.inl rfl, hne⟩)
        · exact .inr (.inr ⟨.inr h, h'⟩)
      · rintro (h | h | ⟨h | h, h'⟩)
        · exact .inl (.inl (.inl h))
        · exact .inl (.inl (.inr h))
        · exact .inl (.inr h)
        · exact .inr ⟨h, h'⟩
    · have hnp : ((!placed) && decide (cmpE e q < 0)) = false := by
        cases placed <;> simp at hplace ⊢
        exact hplace
      have hqe : placed = false → q.1 ≠ e.1 → cmpE q e < 0 := fun h1 h2 => by
        have h3 : ¬ cmpE e q < 0 := fun h => hplace ⟨h1, h⟩
        have h4 := cmpE_neg q e
        have h5 : cmpE q e ≠ 0 := fun h => h2 (by rw [(cmpE_zero q e).1 h])
        omega
      by_cases hd : q.1 = e.1
      · have hst : putStep e (out, placed) q = (out, placed) := by
          unfold putStep
          simp [hnp, hd]
        rw [hst]
        have := put_go e rest out placed hr.2 ho (fun x hx y hy => hor x hx y (by simp [hy])) hp (fun x hx => hb x (by simp [hx])) (fun h y hy => hpl h y (by simp [hy]))
        refine ⟨this.1, fun x => (this.2 x).trans ?_⟩
        rw [List.mem_cons]
        constructor
        · rintro (h | h | ⟨h, h'⟩)
          · exact .inl h
          · exact .inr (.inl h)
          · exact .inr (.inr ⟨.inr h, h'⟩)
        · rintro (h | h | ⟨h | h, h'⟩)
          · exact .inl h
          · exact .inr (.inl h)
          · subst h; exact absurd hd h'
          · exact .inr (.inr ⟨h, h'⟩)
      · have hst : putStep e (out, placed) q = (out ++ [q], placed) := by
          unfold putStep
          simp [hnp, hd]
        rw [hst]
        have := put_go e rest (out ++ [q]) placed hr.2 (by
            refine List.pairwise_append.2 ⟨ho, by simp, fun x hx y hy => ?_⟩
            obtain rfl : y = q := by simpa using hy
            exact hor x hx y (by simp)) (fun x hx y hy => by
            rcases List.mem_append.1 hx with hx | hx
            · exact hor x hx y (by simp [hy])
            · obtain rfl : x = q := by simpa using hx
              exact hr.1 y hy) (fun h x hx => by
            rcases List.mem_append.1 hx with hx | hx
            · exact hp h x hx
            · obtain rfl : x = q := by simpa using hx
              exact hqe h hd) (fun x hx => hb x (by simp [hx])) (fun h y hy => hpl h y (by simp [hy]))
        refine ⟨this.1, fun x => (this.2 x).trans ?_⟩
        simp only [List.mem_append, List.mem_cons, List.not_mem_nil, or_false]
        constructor
        · rintro ((h | h) | h | ⟨h, h'⟩)
          · exact .inl h
          · subst h; exact .inr (.inr ⟨.inl rfl, hd⟩)
          · exact .inr (.inl h)
          · exact .inr (.inr ⟨.inr h, h'⟩)
        · rintro (h | h | ⟨h | h, h'⟩)
          · exact .inl (.inl h)
          · exact .inr (.inl h)
          · exact .inl (.inr h)
          · exact .inr (.inr ⟨h, h'⟩)
theorem refPut_ok {f : List Int → Option Int} {L : List (List Int × Int)} {e : List Int × Int} (h : Lists f L) (he : EntOk e) : Lists (putF f e.1 e.2) (refPut L e).1 ∧ (refPut L e).2 = !old? f e.1 e.2 := by
  have hany : L.any (blocks e) = old? f e.1 e.2 := by
    cases h1 : f e.1 with
    | none =>
      have : old? f e.1 e.2 = false := by unfold old?; simp [h1]
      rw [this, List.any_eq_false]
      intro q hq hbl
      unfold blocks at hbl
      simp only [Bool.and_eq_true, decide_eq_true_eq] at hbl
      have := ((h.mem q).1 hq).2
      rw [hbl.1, h1] at this
      cases this
    | some t =>
      unfold old?
      rw [h1]
      simp only [Option.isSome_some, Bool.true_and, Option.getD_some]
      rw [Bool.eq_iff_iff, List.any_eq_true, decide_eq_true_eq]
      constructor
      · rintro ⟨q, hq, hbl⟩
        unfold blocks at hbl
        simp only [Bool.and_eq_true, decide_eq_true_eq] at hbl
        have := ((h.mem q).1 hq).2
        rw [hbl.1, h1] at this
        injection this with this
        omega
      · intro hle
        exact ⟨(e.1, t), (h.mem _).2 ⟨⟨he.dig, h.exp _ _ he.dig h1⟩, h1⟩, by simp [blocks, hle]⟩
  rcases Bool.eq_false_or_eq_true (old? f e.1 e.2) with ho | ho
  · have e1 : refPut L e = (L, false) := by unfold refPut; rw [hany, ho]; rfl
    have e2 : putF f e.1 e.2 = f := by unfold putF; rw [if_pos ho]
    rw [e1, e2, ho]
    exact ⟨h, rfl⟩
  · have e1 : refPut L e = (if (putS L e).2 then (putS L e).1 else (putS L e).1 ++ [e], true) := by unfold refPut; rw [hany, ho]; rfl
    have e2 : putF f e.1 e.2 = upd f e.1 e.2 := by unfold putF; rw [ho]; rfl
    rw [e1, e2, ho]
    refine ⟨?_, rfl⟩
    have hb : ∀ q ∈ L, q.1 = e.1 → q.2 < e.2 := fun q hq hd => by
      have h1 := List.any_eq_false.1 (hany.trans ho) q hq
      unfold blocks at h1
      simp only [Bool.and_eq_true, decide_eq_true_eq, not_and] at h1
      have := h1 hd
      omega
    have key := put_go e L [] false h.sorted (by simp) (by simp) (by simp) hb (by simp)
    refine ⟨fun p => ?_, key.1, fun d t hd ht => ?_⟩
    · refine (key.2 p).trans ?_
      rw [h.mem p]
      unfold upd
      by_cases hp : p.1 = e.1
      · rw [if_pos hp]
        constructor
        · rintro (h1 | ⟨_, h1⟩ | ⟨_, h1⟩)
          · simp at h1
          · subst h1; exact ⟨he, rfl⟩
          · exact absurd hp h1
        · rintro ⟨_, h1⟩
          injection h1 with h1
          exact .inr (.inl ⟨rfl, Prod.ext hp h1.symm⟩)
      · rw [if_neg hp]
        constructor
        · rintro (h1 | ⟨_, h1⟩ | ⟨h1, _⟩)
          · simp at h1
          · subst h1; exact absurd rfl hp
          · exact h1
        · intro h1
          exact .inr (.inr ⟨h1, hp⟩)
    · unfold upd at ht
      split at ht
      · injection ht with ht
        subst ht
        exact he.exp
      · exact h.exp d t hd ht
theorem Lists.nil : Lists (fun _ => none) [] := ⟨fun p => by simp, List.Pairwise.nil, fun d t _ h => by cases h⟩
/-- What Of answers. -/
def refOf (l : List (List Int × Int)) : List (List Int × Int) := l.foldl (fun o e => (refPut o e).1) []
theorem refOf_snoc (l : List (List Int × Int)) (k : Nat) (h : k < l.length) : refOf (l.take (k + 1)) = (refPut (refOf (l.take k)) l[k]).1 := by
  unfold refOf
  rw [List.take_succ_eq_append_getElem h, List.foldl_append]
  rfl
theorem refOf_ok : ∀ l : List (List Int × Int), (∀ p ∈ l, EntOk p) → Lists (idxS l).1 (refOf l) := by
  intro l hok
  have key : ∀ k, k ≤ l.length → Lists (idxS (l.take k)).1 (refOf (l.take k)) ∧ (refOf (l.take k)).length ≤ k := by
    intro k
    induction k with
    | zero =>
      intro _
      rw [idxS_def]
      exact ⟨Lists.nil, Nat.le_refl _⟩
    | succ k ih =>
      intro hk
      have hlt : k < l.length := by omega
      obtain ⟨h1, h2⟩ := ih (by omega)
      rw [idxS_snoc l k hlt, refOf_snoc l k hlt]
      have := refPut_len (refOf (l.take k)) l[k]
      exact ⟨(refPut_ok h1 (hok _ (List.getElem_mem hlt))).1, by omega⟩
  have := (key l.length (Nat.le_refl _)).1
  rwa [List.take_length] at this
theorem refOf_len (l : List (List Int × Int)) : (refOf l).length ≤ l.length := by
  have key : ∀ k, k ≤ l.length → (refOf (l.take k)).length ≤ k := by
    intro k
    induction k with
    | zero => intro _; exact Nat.le_refl _
    | succ k ih =>
      intro hk
      have hlt : k < l.length := by omega
      have h2 := ih (by omega)
      rw [refOf_snoc l k hlt]
      have := refPut_len (refOf (l.take k)) l[k]
      omega
  have := key l.length (Nat.le_refl _)
  rwa [List.take_length] at this
end Go.Proofs.Ytlhehnghplchfaa
