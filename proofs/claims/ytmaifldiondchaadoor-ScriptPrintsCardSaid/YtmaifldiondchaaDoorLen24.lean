/- The length of a line. -/
import Derived.Test.YtmaifldiondchaaDoorScrF
import Derived.Test.YtmaifldiondchaaDoorLine
import Derived.Test.YtmaifldiondchaaDoorParse24
namespace Go.Proofs.YtmaifldiondchaaDoor
theorem line_len (o : OpD) (hd : o.data.length ≤ 500) (hc : o.cuts.length ≤ 50) : (lineB o).length ≤ 3000 := by
  unfold lineB
  split
  · rename_i hr
    have hp := right_p hr
    have h1 := wordL_length o.kind
    have h2 := itoa_len o.n (by have := hp.n.1; omega) (by have := hp.n.1; omega)
    have h3 := cutsL_len o.cuts hp.cut o.cuts.length (Nat.le_refl _)
    rw [List.take_length] at h3
    have h4 := hexL_length o.data
    unfold lineL
    simp only [List.length_append]
    have h5 : (if numbered o.kind then 32 :: Lib.itoa o.n else []).length ≤ 21 := by split <;> simp <;> omega
    have h6 : (if o.data.isEmpty then [] else 32 :: hexL o.data).length ≤ 1001 := by split <;> simp <;> omega
    omega
  · simp
theorem right_len {o : OpD} (h : rightB o = true) : o.data.length ≤ 131072 ∧ o.cuts.length ≤ 20 := by
  have hp := right_p h
  have hk := right_kind h
  obtain ⟨k, n, d, c⟩ := o
  have hd : k = 3 ∨ d = [] := hp.data
  have hc : k = 6 ∨ c = [] := hp.cuts
  refine ⟨?_, ?_⟩
  · rcases hd with e | e
    · subst e
      unfold rightB at h
      simp at h
      exact h.2.2
    · rw [e]; simp
  · rcases hc with e | e
    · subst e
      rw [show rightB ⟨6, n, d, c⟩ = ((6 == 3 || d.isEmpty) && ((6 == 6 || c.isEmpty) && (decide (0 ≤ n) && (decide (n ≤ 1048576) && (cutsB c && decide (c.length ≤ 20)))))) from rfl] at h
      simp at h
      exact h.2.2.2.2
    · rw [e]; simp
theorem parse_len {s : Bs} {o : OpD} (h : parseL s = some o) : o.data.length ≤ 131072 ∧ o.cuts.length ≤ 20 := right_len (line_parse h).1
theorem runT_bound : ∀ (ws : List Bs) (n : Nat) (acc : List OpD), (∀ o ∈ acc, o.data.length ≤ 131072 ∧ o.cuts.length ≤ 20) → ∀ o ∈ (runT ws n acc).2, o.data.length ≤ 131072 ∧ o.cuts.length ≤ 20
  | [], _, acc, h => h
  | [w], n, acc, h => by
    rw [runT_last]
    split
    · exact h
    · intro o ho; cases ho
  | w :: x :: ws, n, acc, h => by
    cases hs : skipL w with
    | true => rw [runT_skip _ _ _ hs (by simp)]; exact runT_bound (x :: ws) (n + 1) acc h
    | false =>
      cases hp : parseL w with
      | none => rw [runT_none _ _ _ hs (by simp) hp]; intro o ho; cases ho
      | some o =>
        rw [runT_some _ _ _ hs (by simp) hp]
        refine runT_bound (x :: ws) (n + 1) _ (fun p hp2 => ?_)
        rw [List.mem_append, List.mem_singleton] at hp2
        rcases hp2 with hp2 | rfl
        · exact h p hp2
        · exact parse_len hp
theorem runT_len : ∀ (ws : List Bs) (n : Nat) (acc : List OpD), (runT ws n acc).2.length ≤ acc.length + ws.length
  | [], _, acc => Nat.le_add_right _ _
  | [w], n, acc => by
    rw [runT_last]
    split <;> simp
  | w :: x :: ws, n, acc => by
    cases hs : skipL w with
    | true =>
      rw [runT_skip _ _ _ hs (by simp)]
      have := runT_len (x :: ws) (n + 1) acc
      simp only [List.length_cons] at this ⊢
      omega
    | false =>
      cases hp : parseL w with
      | none => rw [runT_none _ _ _ hs (by simp) hp]; simp
      | some o =>
        rw [runT_some _ _ _ hs (by simp) hp]
        have := runT_len (x :: ws) (n + 1) (acc ++ [o])
        simp only [List.length_cons, List.length_append, List.length_nil] at this ⊢
        omega
theorem parseT_len (s : Bs) : (parseT s).2.length ≤ s.length + 1 := by
  have h1 := runT_len (split 10 s) 0 []
  have h2 := split_len 10 s
  unfold parseT
  simp only [List.length_nil] at h1
  omega
theorem SB_back (a : ByteArray) : SB a.data.toList = a := by
  apply ByteArray.ext
  show a.data.toList.toArray = a.data
  simp
end Go.Proofs.YtmaifldiondchaaDoor
