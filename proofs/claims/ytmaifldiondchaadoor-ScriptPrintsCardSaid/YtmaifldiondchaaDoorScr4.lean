/- Scripts as plain lists of bytes: the reference's reading of a line is that of the package. -/
import Derived.Test.YtmaifldiondchaaDoorScr3
import Derived.Test.YtmaifldiondchaaDoorScrE
namespace Go.Proofs.YtmaifldiondchaaDoor

/-- The number behind the first word, and the words behind it. -/
def numF (k : Int) (ws : List Bs) : Option (Int × List Bs) :=
  if k = 1 ∨ 5 ≤ k then (match ws with | [] => none | y :: r => if refNum y < 0 then none else some (refNum y, r)) else some (0, ws)
/-- The bytes, and the words behind them. -/
def datF (k : Int) (ws : List Bs) : Option (Bs × List Bs) :=
  if k = 3 then (match ws with | [] => some ([], []) | y :: r => if y = [] then none else (hexB y).map fun d => (d, r)) else some ([], ws)
def refOp (k : Int) (ws : List Bs) : Option OpD :=
  (numF k ws).bind fun p => (datF k p.2).bind fun q => right? (some ⟨k, p.1, q.1, q.2.map refNum⟩)

theorem right_cuts {k n : Int} {d : Bs} {c : List Int} (hk : k ≠ 6) (hc : c ≠ []) : rightB ⟨k, n, d, c⟩ = false := by
  unfold rightB
  have h1 : ((k == 6) || c.isEmpty) = false := by
    rw [Bool.or_eq_false_iff]
    refine ⟨by simpa using hk, ?_⟩
    cases c with
    | nil => exact absurd rfl hc
    | cons => rfl
  simp only [h1, Bool.false_and, Bool.and_false]
theorem right?_cuts {k n : Int} {d : Bs} {c : List Int} (hk : k ≠ 6) (hc : c ≠ []) : right? (some ⟨k, n, d, c⟩) = none := by
  rw [right?_some, right_cuts hk hc]; rfl
theorem cutsOf_ref : ∀ (xs : List Bs), (∃ cs, cutsOf xs = some cs ∧ xs.map refNum = cs) ∨ (cutsOf xs = none ∧ cutsB (xs.map refNum) = false)
  | [] => .inl ⟨[], rfl, rfl⟩
  | x :: xs => by
    have ho : cutsOf (x :: xs) = (numB x).bind fun (n : Nat) => (cutsOf xs).map fun l => (n : Int) :: l := rfl
    have hb : cutsB ((x :: xs).map refNum) = (decide (0 ≤ refNum x) && decide (refNum x ≤ 64) && cutsB (xs.map refNum)) := by
      simp [cutsB]
    rcases hn : numB x with _ | n
    · refine .inr ⟨by rw [ho, hn]; rfl, ?_⟩
      rw [hb, refNum_none hn]; rfl
    · rcases cutsOf_ref xs with ⟨cs, h1, h2⟩ | ⟨h1, h2⟩
      · exact .inl ⟨(n : Int) :: cs, by rw [ho, hn, h1]; rfl, by rw [List.map_cons, h2, refNum_some hn]⟩
      · exact .inr ⟨by rw [ho, hn, h1]; rfl, by rw [hb, h2, Bool.and_false]⟩
def numY : List Bs → Option (Int × List Bs)
  | [] => none
  | y :: r => if refNum y < 0 then none else some (refNum y, r)
theorem numF_one {k : Int} (ws : List Bs) (h : k = 1 ∨ 5 ≤ k) : numF k ws = numY ws := by
  unfold numF; rw [if_pos h]; cases ws <;> rfl
theorem numF_two {k : Int} (ws : List Bs) (h : ¬ (k = 1 ∨ 5 ≤ k)) : numF k ws = some (0, ws) := if_neg h
theorem datF_no {k : Int} (ws : List Bs) (h : k ≠ 3) : datF k ws = some ([], ws) := if_neg h
theorem ref_one (k : Int) (ws : List Bs) (hk : k = 1 ∨ k = 5) : refOp k ws = right? (opW k ws) := by
  unfold refOp
  rw [numF_one ws (by omega)]
  have e3 : opW k ws = (match ws with | [x] => (numB x).map fun (n : Nat) => OpD.mk k (n : Int) [] [] | _ => none) := by unfold opW; rw [if_pos hk]; rfl
  rw [e3]
  clear e3
  cases ws with
  | nil => rfl
  | cons y r =>
    rcases hn : numB y with _ | n
    · show (Option.bind (if refNum y < 0 then none else some (refNum y, r)) _) = _
      rw [refNum_none hn, if_pos (by decide)]
      cases r with
      | nil => simp only [hn]; rfl
      | cons => rfl
    · show (Option.bind (if refNum y < 0 then none else some (refNum y, r)) _) = _
      rw [refNum_some hn, if_neg (by omega), Option.bind_some, datF_no _ (by omega), Option.bind_some]
      cases r with
      | nil => simp only [hn]; rfl
      | cons z t => exact right?_cuts (by omega) (by simp)
theorem ref_two (k : Int) (ws : List Bs) (hk : k = 2 ∨ k = 4) : refOp k ws = right? (opW k ws) := by
  unfold refOp
  rw [numF_two ws (by omega), Option.bind_some, datF_no _ (by omega), Option.bind_some]
  have e3 : opW k ws = (match ws with | [] => some ⟨k, 0, [], []⟩ | _ => none) := by unfold opW; rw [if_neg (by omega), if_pos hk]; rfl
  rw [e3]
  clear e3
  cases ws with
  | nil => rfl
  | cons z t => exact right?_cuts (by omega) (by simp)
theorem refOp_opW (k : Int) (ws : List Bs) (h0 : 0 ≤ k) (h6 : k ≤ 6) : refOp k ws = right? (opW k ws) := by
  have hk : k = 0 ∨ k = 1 ∨ k = 2 ∨ k = 3 ∨ k = 4 ∨ k = 5 ∨ k = 6 := by omega
  rcases hk with rfl | rfl | rfl | rfl | rfl | rfl | rfl
  · show right? (some ⟨0, 0, [], ws.map refNum⟩) = none
    rw [right?_some, show rightB ⟨0, 0, [], ws.map refNum⟩ = false by unfold rightB; simp]; rfl
  · exact ref_one 1 ws (.inl rfl)
  · exact ref_two 2 ws (.inl rfl)
  · unfold refOp
    rw [numF_two ws (by omega), Option.bind_some]
    cases ws with
    | nil => rfl
    | cons y r =>
      show Option.bind (if y = [] then none else (hexB y).map fun d => (d, r)) _ = right? (match y :: r with | [] => some ⟨3, 0, [], []⟩ | [x] => if x = [] then none else (hexB x).map fun d => OpD.mk 3 0 d [] | _ => none)
      by_cases hy : y = []
      · rw [if_pos hy]
        cases r with
        | nil => simp only [hy]; rfl
        | cons => rfl
      · rw [if_neg hy]
        cases r with
        | nil =>
          simp only [if_neg hy]
          cases hexB y <;> rfl
        | cons z t =>
          cases hexB y with
          | none => rfl
          | some d => exact right?_cuts (k := 3) (n := 0) (d := d) (c := (z :: t).map refNum) (by decide) (by simp)
  · exact ref_two 4 ws (.inr rfl)
  · exact ref_one 5 ws (.inr rfl)
  · unfold refOp
    rw [numF_one ws (by omega)]
    cases ws with
    | nil => rfl
    | cons y r =>
      show Option.bind (if refNum y < 0 then none else some (refNum y, r)) _ = right? ((numB y).bind fun (n : Nat) => (cutsOf r).map fun cs => OpD.mk 6 (n : Int) [] cs)
      rcases hn : numB y with _ | n
      · rw [refNum_none hn, if_pos (by decide)]; rfl
      · rw [refNum_some hn, if_neg (by omega), Option.bind_some, datF_no _ (by decide), Option.bind_some, Option.bind_some]
        rcases cutsOf_ref r with ⟨cs, h1, h2⟩ | ⟨h1, h2⟩
        · rw [h1, h2]; rfl
        · rw [h1, right?_some, right6, h2]
          simp [right?]
/-- The reference's reading of a line. -/
theorem refOp_parse (s : Bs) : refOp (kindOf ((split 32 s).headD [])) (split 32 s).tail = parseL s := by
  rw [refOp_opW _ _ (kindOf_range _).1 (kindOf_range _).2]; rfl
end Go.Proofs.YtmaifldiondchaaDoor
