/- Scripts as plain lists of bytes: the line's operation as the package reads it. -/
import Derived.Test.YtmaifldiondchaaDoorPar2
namespace Go.Proofs.YtmaifldiondchaaDoor

/-- What is read of a line behind its first word: the operation, if there is one, as yet unchecked. -/
def opS (k : Int) (mb : Bool) (r : Bs) : Option OpD :=
  if k = 2 ∨ k = 4 then (if mb then none else some ⟨k, 0, [], []⟩)
  else if k = 3 then (if mb then (if (dataR r).2 then some ⟨3, 0, (dataR r).1, []⟩ else none) else some ⟨3, 0, [], []⟩)
  else if k = 1 ∨ k = 5 then (if (numR r).2 then some ⟨k, (numR r).1, [], []⟩ else none)
  else if k = 6 then (if (crashR r).2 then some ⟨6, (crashR r).1.1, [], (crashR r).1.2⟩ else none)
  else none
def right? (o : Option OpD) : Option OpD := o.bind fun o => if rightB o then some o else none
theorem right?_none : right? none = none := rfl
theorem right?_some (o : OpD) : right? (some o) = if rightB o then some o else none := rfl
theorem numB_sp (r : Bs) (h : (32 : UInt8) ∈ r) : numB r = none := by
  rw [numB_if, if_neg]
  intro e
  simp only [Bool.and_eq_true] at e
  have := List.all_eq_true.1 e.2.2.2 32 h
  revert this
  decide
theorem numB_nil : numB [] = none := rfl
theorem hexB_sp (r : Bs) (h : (32 : UInt8) ∈ r) : hexB r = none := by
  cases e : hexB r with
  | none => rfl
  | some d =>
    have := hexL_hexB _ r d (Nat.le_refl _) e
    rw [← this] at h
    exact absurd h (hexL_nosp d 32 (by decide))
theorem runC_spec : ∀ (xs : List Bs) (acc : List Int), acc.length ≤ 20 →
    (∃ cs, cutsOf xs = some cs ∧ cutsB cs = true ∧ acc.length + cs.length ≤ 20 ∧ runC xs acc = some (acc ++ cs)) ∨ (runC xs acc = none ∧ ∀ cs, cutsOf xs = some cs → ¬ (cutsB cs = true ∧ acc.length + cs.length ≤ 20))
  | [], acc, h => .inl ⟨[], rfl, rfl, by simpa using h, by simp [runC]⟩
  | x :: xs, acc, h => by
    cases hn : numB x with
    | none => exact .inr ⟨by rw [runC, hn], fun cs e => by unfold cutsOf at e; rw [hn] at e; cases e⟩
    | some n =>
      by_cases hb : 64 < n ∨ acc.length = 20
      · refine .inr ⟨by rw [runC, hn]; exact if_pos hb, fun cs e hc => ?_⟩
        unfold cutsOf at e
        rw [hn, Option.bind_some, Option.map_eq_some_iff] at e
        obtain ⟨l, _, rfl⟩ := e
        have h1 := (cutsB_iff _).1 hc.1 (n : Int) (by simp)
        have h2 := hc.2
        rw [List.length_cons] at h2
        omega
      · have hr : runC (x :: xs) acc = runC xs (acc ++ [(n : Int)]) := by rw [runC, hn]; exact if_neg hb
        have ho : cutsOf (x :: xs) = (cutsOf xs).map fun l => (n : Int) :: l := by rw [cutsOf, hn]; rfl
        have hcb : ∀ l, cutsB ((n : Int) :: l) = cutsB l := fun l => by
          show (decide (0 ≤ (n : Int)) && decide ((n : Int) ≤ 64) && cutsB l) = cutsB l
          rw [decide_eq_true (by omega), decide_eq_true (by omega)]; rfl
        rcases runC_spec xs (acc ++ [(n : Int)]) (by simp; omega) with ⟨cs, h1, h2, h3, h4⟩ | ⟨h1, h2⟩
        · refine .inl ⟨(n : Int) :: cs, by rw [ho, h1]; rfl, by rw [hcb]; exact h2, ?_, by rw [hr, h4]; simp⟩
          simp at h3 ⊢; omega
        · refine .inr ⟨by rw [hr, h1], fun cs e hc => ?_⟩
          rw [ho, Option.map_eq_some_iff] at e
          obtain ⟨l, hl, rfl⟩ := e
          rw [hcb] at hc
          exact h2 l hl ⟨hc.1, by have := hc.2; simp at this ⊢; omega⟩
theorem right6 (n : Int) (cs : List Int) : rightB ⟨6, n, [], cs⟩ = (decide (0 ≤ n) && (decide (n ≤ 1048576) && (cutsB cs && decide (cs.length ≤ 20)))) := by
  unfold rightB
  simp
theorem crash_same (n : Int) (xs : List Bs) : right? ((cutsOf xs).map fun cs => OpD.mk 6 n [] cs) = right? ((runC xs []).map fun cs => OpD.mk 6 n [] cs) := by
  rcases runC_spec xs [] (by simp) with ⟨cs, h1, _, _, h4⟩ | ⟨h1, h2⟩
  · rw [h1, h4]; rfl
  · rw [h1]
    cases hc : cutsOf xs with
    | none => rfl
    | some cs =>
      have := h2 cs hc
      show (if rightB ⟨6, n, [], cs⟩ then _ else none) = none
      rw [if_neg]
      rw [right6]
      intro e
      simp only [Bool.and_eq_true, decide_eq_true_eq] at e
      exact this ⟨e.2.2.1, by simpa using e.2.2.2⟩
theorem right3_long (d : Bs) (h : 131072 < d.length) : rightB ⟨3, 0, d, []⟩ = false := by
  unfold rightB
  simp
  omega
/-- The package reads a line as its words say. -/
theorem parseL_opS (s x r : Bs) (mb : Bool) (hh : (split 32 s).headD [] = x) (ht : (split 32 s).tail = if mb then split 32 r else []) (hr : mb = false → r = []) : parseL s = right? (opS (kindOf x) mb r) := by
  unfold parseL
  rw [hh, ht]
  show right? (opW (kindOf x) _) = _
  obtain ⟨k, hk⟩ : ∃ k, k = kindOf x := ⟨_, rfl⟩
  rw [← hk]
  have hrange := kindOf_range x
  rw [← hk] at hrange
  have hnum : (numB r).map (fun (n : Nat) => OpD.mk k (n : Int) [] []) = if (numR r).2 then some ⟨k, (numR r).1, [], []⟩ else none := by
    rcases numR_of r with ⟨h1, h2⟩ | ⟨n, h1, h2⟩ <;> (rw [h1, h2]; rfl)
  have h1or : k = 1 ∨ k = 5 → right? (opW k (if mb then split 32 r else [])) = right? (opS k mb r) := by
    intro h
    have e : opS k mb r = if (numR r).2 then some ⟨k, (numR r).1, [], []⟩ else none := by
      unfold opS
      rw [if_neg (by omega), if_neg (by omega), if_pos h]
    rw [e, ← hnum]
    congr 1
    unfold opW
    rw [if_pos h]
    cases mb with
    | false => rw [hr rfl]; rfl
    | true =>
      rw [if_pos rfl]
      rcases cut_ways 32 r with ⟨_, h2, _⟩ | ⟨a, b, h1, h2, _⟩
      · rw [h2]
      · rw [h2, numB_sp r (by rw [h1]; simp)]
        obtain ⟨p, q, e⟩ := split_form 32 b
        rw [e]; rfl
  have h2or : k = 2 ∨ k = 4 → right? (opW k (if mb then split 32 r else [])) = right? (opS k mb r) := by
    intro h
    congr 1
    unfold opW opS
    rw [if_neg (by omega), if_pos h, if_pos h]
    cases mb with
    | false => rfl
    | true =>
      obtain ⟨p, q, e⟩ := split_form 32 r
      rw [if_pos rfl, e]; rfl
  have h3 : k = 3 → right? (opW k (if mb then split 32 r else [])) = right? (opS k mb r) := by
    rintro rfl
    cases mb with
    | false => rfl
    | true =>
      show right? (match split 32 r with | [] => some ⟨3, 0, [], []⟩ | [x] => if x = [] then none else (hexB x).map fun d => OpD.mk 3 0 d [] | _ => none) = right? (if (dataR r).2 then some ⟨3, 0, (dataR r).1, []⟩ else none)
      rcases cut_ways 32 r with ⟨_, h2, _⟩ | ⟨a, b, h1, h2, _⟩
      · rw [h2]
        by_cases hn : r = []
        · subst hn; rfl
        · have hl : r.length ≠ 0 := fun e => hn (List.length_eq_zero_iff.1 e)
          show right? (if r = [] then none else _) = _
          rw [if_neg hn]
          cases hx : hexB r with
          | none =>
            have : dataR r = ([], false) := by unfold dataR; split; rfl; rw [hx]
            rw [this]; rfl
          | some d =>
            have hlen := hexB_len _ r d (Nat.le_refl _) hx
            by_cases hb : r.length > 262144
            · have : dataR r = ([], false) := by unfold dataR; rw [if_pos (.inr hb)]
              rw [this]
              show (if rightB ⟨3, 0, d, []⟩ then _ else none) = none
              rw [right3_long d (by omega)]; rfl
            · have : dataR r = (d, true) := by unfold dataR; rw [if_neg (by omega), hx]
              rw [this]; rfl
      · have hm : (32 : UInt8) ∈ r := by rw [h1]; simp
        have : dataR r = ([], false) := by unfold dataR; split; rfl; rw [hexB_sp r hm]
        rw [this, h2]
        obtain ⟨p, q, e⟩ := split_form 32 b
        rw [e]; rfl
  have h6 : k = 6 → right? (opW k (if mb then split 32 r else [])) = right? (opS k mb r) := by
    rintro rfl
    have e : opS 6 mb r = if (crashR r).2 then some ⟨6, (crashR r).1.1, [], (crashR r).1.2⟩ else none := rfl
    rw [e]
    cases mb with
    | false => rw [hr rfl]; rfl
    | true =>
      rw [if_pos rfl]
      obtain ⟨p, q, e⟩ := split_form 32 r
      show right? (match split 32 r with | x :: xs => (numB x).bind fun (n : Nat) => (cutsOf xs).map fun cs => OpD.mk 6 (n : Int) [] cs | _ => none) = _
      unfold crashR
      rw [e, List.headD_cons, List.tail_cons]
      show right? ((numB p).bind fun (n : Nat) => (cutsOf q).map fun cs => OpD.mk 6 (n : Int) [] cs) = _
      cases hn : numB p with
      | none => rfl
      | some n =>
        rw [Option.bind_some, crash_same]
        cases runC q [] <;> rfl
  have h0 : k = 0 → right? (opW k (if mb then split 32 r else [])) = right? (opS k mb r) := by
    rintro rfl
    rfl
  have : k = 0 ∨ (k = 1 ∨ k = 5) ∨ (k = 2 ∨ k = 4) ∨ k = 3 ∨ k = 6 := by omega
  rcases this with h | h | h | h | h
  · exact h0 h
  · exact h1or h
  · exact h2or h
  · exact h3 h
  · exact h6 h
end Go.Proofs.YtmaifldiondchaaDoor
