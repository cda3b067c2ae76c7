/- Scripts as plain lists of bytes: the lines of a text; what is printed is read back. -/
import Derived.Test.YtmaifldiondchaaDoorScr1
namespace Go.Proofs.YtmaifldiondchaaDoor

def skipL (w : Bs) : Bool := w.isEmpty || w.head? == some 35
/-- The lines' operations: the number of the wrong line (0: none) and the operations. -/
def runT : List Bs → Nat → List OpD → Nat × List OpD
  | [], _, acc => (0, acc)
  | [w], n, acc => if w.isEmpty then (0, acc) else (n + 1, [])
  | w :: x :: ws, n, acc => if skipL w then runT (x :: ws) (n + 1) acc else match parseL w with
    | none => (n + 1, [])
    | some o => runT (x :: ws) (n + 1) (acc ++ [o])
def parseT (s : Bs) : Nat × List OpD := runT (split 10 s) 0 []
def printT (l : List OpD) : Bs := l.flatMap fun o => lineB o ++ [10]
theorem runT_last (w : Bs) (n : Nat) (acc : List OpD) : runT [w] n acc = if w.isEmpty then (0, acc) else (n + 1, []) := rfl
theorem runT_skip {w : Bs} (ws : List Bs) (n : Nat) (acc : List OpD) (hs : skipL w = true) (hne : ws ≠ []) : runT (w :: ws) n acc = runT ws (n + 1) acc := by
  obtain ⟨x, xs, rfl⟩ := List.exists_cons_of_ne_nil hne
  show (if skipL w then _ else _) = _
  rw [if_pos hs]
theorem runT_none {w : Bs} (ws : List Bs) (n : Nat) (acc : List OpD) (hs : skipL w = false) (hne : ws ≠ []) (hp : parseL w = none) : runT (w :: ws) n acc = (n + 1, []) := by
  obtain ⟨x, xs, rfl⟩ := List.exists_cons_of_ne_nil hne
  show (if skipL w then _ else match parseL w with | none => _ | some o => _) = _
  rw [if_neg (by rw [hs]; exact Bool.false_ne_true), hp]
theorem runT_some {w : Bs} {o : OpD} (ws : List Bs) (n : Nat) (acc : List OpD) (hs : skipL w = false) (hne : ws ≠ []) (hp : parseL w = some o) : runT (w :: ws) n acc = runT ws (n + 1) (acc ++ [o]) := by
  obtain ⟨x, xs, rfl⟩ := List.exists_cons_of_ne_nil hne
  show (if skipL w then _ else match parseL w with | none => _ | some o => _) = _
  rw [if_neg (by rw [hs]; exact Bool.false_ne_true), hp]
theorem line_ne {o : OpD} (h : rightB o = true) : ∃ x t, lineB o = x :: t ∧ x ≠ 35 := by
  unfold lineB
  rw [if_pos h, lineL_words]
  rcases right_kind h with e | e | e | e | e | e <;> (rw [e]; exact ⟨_, _, rfl, by decide⟩)
theorem line_nonl {o : OpD} (h : rightB o = true) : (10 : UInt8) ∉ lineB o := by
  unfold lineB
  rw [if_pos h, lineL_words, List.mem_append]
  rintro (hm | hm)
  · exact (wordL_nosp _).2 hm
  · unfold spaced at hm
    rw [List.mem_flatMap] at hm
    obtain ⟨w, hw, hm⟩ := hm
    rw [List.mem_cons] at hm
    rcases hm with hm | hm
    · cases hm
    · exact restW_nosp (right_p h) 10 (by decide) (by decide) w hw hm
theorem line_empty (o : OpD) : (lineB o).isEmpty = !rightB o := by
  rcases Bool.eq_false_or_eq_true (rightB o) with h | h
  · obtain ⟨x, t, e, _⟩ := line_ne h
    rw [e, h]; rfl
  · unfold lineB
    rw [h]; rfl
theorem print_cons (o : OpD) (l : List OpD) : printT (o :: l) = lineB o ++ 10 :: printT l := by simp [printT]
theorem runT_print : ∀ (l : List OpD), (∀ o ∈ l, rightB o = true) → ∀ (n : Nat) (acc : List OpD), runT (split 10 (printT l)) n acc = (0, acc ++ l)
  | [], _, n, acc => by
    show runT [[]] n acc = _
    rw [List.append_nil]; rfl
  | o :: l, h, n, acc => by
    have ho := h o (by simp)
    obtain ⟨x, t, e, hx⟩ := line_ne ho
    have hs : skipL (lineB o) = false := by
      rw [e]
      unfold skipL
      simp [hx]
    rw [print_cons, split_app 10 _ _ (line_nonl ho), runT_some _ _ _ hs (split_ne _ _) (parse_line ho), runT_print l (fun p hp => h p (by simp [hp])), List.append_assoc]
    rfl
theorem parse_print (l : List OpD) (h : ∀ o ∈ l, rightB o = true) : parseT (printT l) = (0, l) := by
  unfold parseT
  rw [runT_print l h, List.nil_append]
end Go.Proofs.YtmaifldiondchaaDoor
