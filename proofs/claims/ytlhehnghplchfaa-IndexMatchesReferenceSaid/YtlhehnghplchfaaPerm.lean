/- What an index holds does not hang on the order; sorted lists with the same members are equal. -/
import Derived.Test.YtlhehnghplchfaaIdx4
import Derived.Test.YtlhehnghplchfaaOrd
namespace Go.Proofs.Ytlhehnghplchfaa

theorem idxS_def (l : List (List Int × Int)) : idxS l = l.foldl (fun s p => (putF s.1 p.1 p.2, putC s.1 p.1 s.2)) (fun _ => none, 0) := by unfold idxS; rfl
theorem putF_at (f : List Int → Option Int) (d : List Int) (t : Int) (x : List Int) : putF f d t x = if x = d then some (match f d with | some s => if t ≤ s then s else t | none => t) else f x := by
  unfold putF old?
  cases h : f d with
  | none =>
    simp only [Option.isSome_none, Bool.false_and, Bool.false_eq_true, if_false, upd]
  | some s =>
    simp only [Option.isSome_some, Bool.true_and, Option.getD_some, decide_eq_true_eq]
    by_cases hs : t ≤ s
    · rw [if_pos hs]
      by_cases hx : x = d
      · rw [if_pos hx, hx, h, if_pos hs]
      · rw [if_neg hx]
    · rw [if_neg hs]
      simp only [upd, if_neg hs]
theorem put_comm (f : List Int → Option Int) (c : Nat) (p q : List Int × Int) :
    (putF (putF f p.1 p.2) q.1 q.2, putC (putF f p.1 p.2) q.1 (putC f p.1 c)) = (putF (putF f q.1 q.2) p.1 p.2, putC (putF f q.1 q.2) p.1 (putC f q.1 c)) := by
  obtain ⟨d, t⟩ := p
  obtain ⟨d', t'⟩ := q
  refine Prod.ext ?_ ?_
  · funext x
    simp only [putF_at]
    by_cases hd : d = d'
    · subst hd
      simp only [if_true]
      by_cases hx : x = d
      · simp only [if_pos hx]
        cases f d <;> simp only <;> (repeat' split) <;> first | rfl | (congr 1; omega)
      · simp only [if_neg hx]
    · have hd' : ¬ d' = d := fun e => hd e.symm
      simp only [if_neg hd, if_neg hd']
      by_cases hx : x = d
      · simp only [if_neg hd, hx]
      · simp only [if_neg hx]
  · simp only [putC, putF_at]
    by_cases hd : d = d'
    · subst hd
      simp
    · have hd' : ¬ d' = d := fun e => hd e.symm
      simp only [if_neg hd, if_neg hd']
      cases f d <;> cases f d' <;> simp
theorem idxS_perm {l m : List (List Int × Int)} (h : l.Perm m) : idxS l = idxS m := by
  rw [idxS_def, idxS_def]
  exact h.foldl_eq' (fun x _ y _ z => put_comm z.1 z.2 x y) _
theorem sorted_unique : ∀ (L M : List (List Int × Int)), L.Pairwise (fun p q => cmpE p q < 0) → M.Pairwise (fun p q => cmpE p q < 0) → (∀ p, p ∈ L ↔ p ∈ M) → L = M
  | [], [], _, _, _ => rfl
  | [], q :: M, _, _, h => by have := (h q).2 (by simp); simp at this
  | p :: L, [], _, _, h => by have := (h p).1 (by simp); simp at this
  | p :: L, q :: M, hL, hM, h => by
    rw [List.pairwise_cons] at hL hM
    have hpq : p = q := by
      have h1 := (h p).1 (by simp)
      have h2 := (h q).2 (by simp)
      rw [List.mem_cons] at h1 h2
      rcases h1 with h1 | h1
      · exact h1
      · rcases h2 with h2 | h2
        · exact h2.symm
        · have a1 := hM.1 p h1
          have a2 := hL.1 q h2
          have := cmpE_neg p q
          omega
    subst hpq
    have hself : cmpE p p = 0 := (cmpE_zero p p).2 rfl
    rw [sorted_unique L M hL.2 hM.2 fun r => ?_]
    constructor
    · intro hr
      have h1 := (h r).1 (by simp [hr])
      rw [List.mem_cons] at h1
      rcases h1 with rfl | h1
      · have := hL.1 _ hr; omega
      · exact h1
    · intro hr
      have h1 := (h r).2 (by simp [hr])
      rw [List.mem_cons] at h1
      rcases h1 with rfl | h1
      · have := hM.1 _ hr; omega
      · exact h1
end Go.Proofs.Ytlhehnghplchfaa
