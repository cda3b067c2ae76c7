/- Parts: Plain: what SlotTorn's calls come to. -/
import Derived.Test.YtpkcddnclifcpaaML19
import Derived.Test.YtpkcddnclifcpaaML15
import Derived.Test.YtpkcddnclifcpaaML8
namespace Go.Proofs.Ytpkcddnclifcpaa
open Go.RowKit
attribute [local irreducible] wpQuiet wpAnyH
set_option linter.unusedSimpArgs false

/-- Writes of some sectors, one behind the other. -/
def wrs : Int → List (List Int) → List (Int × List Int)
  | _, [] => []
  | a, s :: L => (a, s) :: wrs (a + 1) L
theorem wrs_length : ∀ (L : List (List Int)) (a : Int), (wrs a L).length = L.length
  | [], _ => rfl
  | _ :: L, a => by rw [wrs, List.length_cons, wrs_length L, List.length_cons]
def setAll (sec : List (List Int)) (l : List (Int × List Int)) : List (List Int) := l.foldl (fun s p => s.set p.1.toNat p.2) sec
theorem setAll_append (sec : List (List Int)) (l m : List (Int × List Int)) : setAll sec (l ++ m) = setAll (setAll sec l) m := by unfold setAll; rw [List.foldl_append]
theorem setAll_length (l : List (Int × List Int)) : ∀ sec : List (List Int), (setAll sec l).length = sec.length := by
  induction l with
  | nil => intro sec; rfl
  | cons p l ih => intro sec; rw [setAll, List.foldl_cons]; exact (ih _).trans (by simp)
theorem sync_set (r : List (List Int)) (l : List (Int × List Int)) : ∀ j, j ≤ l.length → syncN r l j = setAll r (l.take j)
  | 0, _ => by simp [syncN, setAll]
  | j + 1, h => by
    have hlt : j < l.length := by omega
    rw [syncN, sync_set r l j (by omega), List.take_succ_eq_append_getElem hlt, setAll_append]
    simp [setAll, hlt]
theorem sync_all (r : List (List Int)) (l : List (Int × List Int)) : syncN r l l.length = setAll r l := by rw [sync_set r l _ (Nat.le_refl _), List.take_length]
/-- Sectors that are written one behind the other lie one behind the other. -/
theorem set_run : ∀ (L : List (List Int)) (a : Int) (sec : List (List Int)), 0 ≤ a → a.toNat + L.length ≤ sec.length → setAll sec (wrs a L) = sec.take a.toNat ++ L ++ sec.drop (a.toNat + L.length)
  | [], a, sec, _, _ => by simp [wrs, setAll]
  | s :: L, a, sec, h0, h => by
    rw [List.length_cons] at h
    have hlt : a.toNat < sec.length := by omega
    have ha : (a + 1).toNat = a.toNat + 1 := by omega
    rw [wrs, show setAll sec ((a, s) :: wrs (a + 1) L) = setAll (sec.set a.toNat s) (wrs (a + 1) L) from rfl]
    rw [set_run L (a + 1) _ (by omega) (by rw [List.length_set]; omega), ha, List.length_cons]
    rw [show (sec.set a.toNat s).take (a.toNat + 1) = sec.take a.toNat ++ [s] by
      rw [List.take_succ_eq_append_getElem (by rw [List.length_set]; exact hlt), List.take_set_of_le (Nat.le_refl _), List.getElem_set_self]]
    rw [List.drop_set_of_lt (by omega), List.append_assoc, List.append_assoc, List.append_assoc, show a.toNat + 1 + L.length = a.toNat + (L.length + 1) by omega]
    rfl
/-- A fill of a disk without plans is done. -/
theorem fillW_q : ∀ (L : List (List Int)) (sec : List (List Int)) (opn : List (Int × List Int)) (st r : Nat) (a : Int), 0 ≤ a → a.toNat + L.length ≤ sec.length → st ≤ r →
    ∃ r', r' ≤ r + 2 * L.length + 1 ∧ fillW (qD sec opn st r) a L = (none, qD (setAll sec (opn ++ wrs a L)) [] (st + L.length + 1) r')
  | [], sec, opn, st, r, a, h0, h, hr => by
    refine ⟨max r (st + 1), by simp; omega, ?_⟩
    rw [fillW, syncA_q, syncS_q, wrs, List.append_nil, sync_all]
    rfl
  | s :: L, sec, opn, st, r, a, h0, h, hr => by
    rw [List.length_cons] at h
    obtain ⟨r', hr', hf⟩ := fillW_q L sec (opn ++ [(a, s)]) (st + 1) (max r (st + 1) + 1) (a + 1) (by omega) (by omega) (by omega)
    refine ⟨r', by rw [List.length_cons]; omega, ?_⟩
    rw [fillW, writeA_q h0 (by omega), writeD_q h0 (by omega)]
    show fillW _ _ _ = _
    rw [hf, wrs, List.append_assoc, List.length_cons, show st + 1 + L.length + 1 = st + (L.length + 1) + 1 by omega]
    rfl
theorem crash_one (sec : List (List Int)) (a : Int) (s : List Int) (c : Int) (h : a.toNat < sec.length) : crashL sec [(a, s)] [c] = sec.set a.toNat (tearL sec[a.toNat] s c) := by
  unfold crashL
  simp [tornN, h]
theorem scan_zeros (g : Nat) (es : List Ent2) : ∀ k, scanL (some g, es) (List.replicate k zsec) = (some g, es)
  | 0 => rfl
  | k + 1 => by
    rw [List.replicate_succ]
    exact scan_stop (fun g' e h => by rw [prsE_zsec] at h; cases h)
theorem entRec_len {q : Ent2} (hq : EntOk q) : (q.1 ++ beB 8 q.2.toNat).length ≤ 54 := by rw [List.length_append, hq.dig.len, beB_length]; omega

/-- A put that crashes in its write or in its sync. -/
theorem put_crash (sec : List (List Int)) (st r : Nat) (p : Nat) (g : Nat) (q : Ent2) (hq : rightE q = true) (k : Nat) (cut : Int) (hk : k = 1 ∨ k = 2) (hp1 : 1 ≤ p) (hp : p < 5) (hs : sec.length = 5) :
    putA (planC (qD sec [] st r) k [cut]) 0 5 p g q = some (12, none) ∧ (putD (planC (qD sec [] st r) k [cut]) 0 5 p g q).down = true ∧ (putD (planC (qD sec [] st r) k [cut]) 0 5 p g q).opn = [] ∧
      (putD (planC (qD sec [] st r) k [cut]) 0 5 p g q).sec = sec.set p (tearL (sec.getD p []) (entRec g q) cut) := by
  have hpl : p < sec.length := by omega
  have hR : ∀ d : DiskD, putA d 0 5 p g q = wsA d p (entRec g q) ∧ putD d 0 5 p g q = wsD d p (entRec g q) := fun d => by
    have h1 : ¬ ((p : Int) < 1) := by omega
    have h2 : ¬ (room 5 < (p : Int)) := by rw [show room 5 = 4 from rfl]; omega
    unfold putA putD
    rw [if_neg h1, if_neg h1, if_neg h2, if_neg h2, if_pos hq, if_pos hq, Int.zero_add]
    exact ⟨rfl, rfl⟩
  rw [(hR _).1, (hR _).2]
  obtain ⟨d, hd⟩ : ∃ d, d = planC (qD sec [] st r) k [cut] := ⟨_, rfl⟩
  have e1 : d.sec = sec ∧ d.opn = [] ∧ d.down = false ∧ d.steps = st ∧ (∀ x, d.fl x = false) ∧ ∀ x, d.cr x = if x = (st : Int) + k then some [cut] else none := by
    rw [hd]
    unfold planC
    rw [if_neg (by omega)]
    exact ⟨rfl, rfl, rfl, rfl, fun _ => rfl, fun _ => rfl⟩
  rw [← hd]
  obtain ⟨e1, e2, e3, e4, e5, e6⟩ := e1
  clear hd hR
  have hh : hasB d p = true := by unfold hasB; simp [e1, hpl]
  have hg : sec.getD p [] = sec[p] := by simp [hpl]
  rw [hg]
  rcases hk with rfl | rfl
  · have hx : d.cr ((d.steps + 1 : Nat) : Int) = some [cut] := by rw [e6, e4, if_pos (by omega)]
    have ho : outS d = 2 := by unfold outS; rw [hx]; rfl
    have hc : cutsS d = [cut] := by unfold cutsS; rw [hx]; rfl
    have hA : writeA d p = some (12, none) := by unfold writeA; rw [e3, ho]; rfl
    have hD : writeD d p (entRec g q) = crashD (addD (stepped d) p (entRec g q)) [cut] := by
      unfold writeD
      rw [e3, ho, hc]
      unfold addIf
      rw [show hasB (stepped d) p = hasB d p from rfl, hh]
      rfl
    unfold wsA wsD
    rw [hA, hD]
    refine ⟨rfl, rfl, rfl, ?_⟩
    show crashL (stepped d).sec ((stepped d).opn ++ [((p : Int), entRec g q)]) [cut] = _
    rw [show (stepped d).sec = sec from e1, show (stepped d).opn = [] from e2, List.nil_append, crash_one _ _ _ _ (by simpa using hpl)]
    rfl
  · have hx : d.cr ((d.steps + 1 : Nat) : Int) = none := by rw [e6, e4, if_neg (by omega)]
    have ho : outS d = 0 := by unfold outS; rw [hx, e5]; rfl
    have hA : writeA d p = none := by unfold writeA; rw [e3, ho, hh]; rfl
    have hD : writeD d p (entRec g q) = addD (stepped d) p (entRec g q) := by
      unfold writeD
      rw [e3, ho]
      unfold addIf
      rw [show hasB (stepped d) p = hasB d p from rfl, hh]
      rfl
    obtain ⟨d', hd'⟩ : ∃ d', d' = addD (stepped d) p (entRec g q) := ⟨_, rfl⟩
    have f1 : d'.sec = sec ∧ d'.opn = [((p : Int), entRec g q)] ∧ d'.down = false ∧ d'.cr ((d'.steps + 1 : Nat) : Int) = some [cut] := by
      rw [hd']
      refine ⟨e1, ?_, e3, ?_⟩
      · show d.opn ++ _ = _
        rw [e2]; rfl
      · show (if ((d.steps + 1 + 1 : Nat) : Int) = ((d.steps + 1 : Nat) : Int) then none else d.cr ((d.steps + 1 + 1 : Nat) : Int)) = _
        rw [if_neg (by omega), e6, e4, if_pos (by omega)]
    unfold wsA wsD
    rw [hA, hD, ← hd']
    obtain ⟨f1, f2, f3, f4⟩ := f1
    have ho' : outS d' = 2 := by unfold outS; rw [f4]; rfl
    have hc' : cutsS d' = [cut] := by unfold cutsS; rw [f4]; rfl
    show syncA d' = _ ∧ (syncS d').down = _ ∧ (syncS d').opn = _ ∧ (syncS d').sec = _
    have hS : syncS d' = crashD (stepped d') [cut] := by unfold syncS; rw [f3, ho', hc']; rfl
    rw [hS]
    refine ⟨by unfold syncA; rw [f3, ho']; rfl, rfl, rfl, ?_⟩
    show crashL (stepped d').sec (stepped d').opn [cut] = _
    rw [show (stepped d').sec = sec from f1, show (stepped d').opn = [((p : Int), entRec g q)] from f2, crash_one _ _ _ _ (by simpa using hpl)]
    rfl
end Go.Proofs.Ytpkcddnclifcpaa
