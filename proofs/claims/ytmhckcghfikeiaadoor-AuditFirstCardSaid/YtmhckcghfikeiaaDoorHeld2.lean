/- More hand laws for a region that draws its order: a struct built, a slice literal of one element, append. No program is named here. -/
import Derived.Test.YtmhckcghfikeiaaDoorHeld
import Derived.Test.YtmhckcghfikeiaaDoorPart
import Derived.Great.BuildSlice
namespace Go.Proofs.YtmhckcghfikeiaaDoor
open Go.RowKit
section
variable {P : Program} {ops : Array Oper} {Q : Exit → Act → World → Prop} {S : World → Prop} {a : Act} {w : World} {listed : Array Bool} {fuel : Nat}
/-- A struct is built out of parts. -/
theorem hBuild (i : Nat) (t : TypeId) (parts : Array (Nat × Operand)) (dst : Option Tmp) {vs : List (Nat × Value)} {cells : Array Value} (hd : (ops[i]?).map (fun o => (o.op, o.dst)) = some (.build t parts, dst)) (hw : (ops[i]?).map (fun o => Region.wanted o (yielded ops a.tmps)) = some true)
    (hs : Region.noSelect ops = true) (hf : Region.free .any ops listed i = true) (hr : (Region.ready .any ops listed).contains i = true)
    (hQ : ∀ c a w, Q (.panic c) (a.put dst (.agg cells)) w → Q (.panic c) a w) (hv : (parts.toList.map fun (i, x) => (i, a.eval x)) = vs) (hb : P.built t vs = some cells) (hS : S w)
    (h : wpAnyH P .any ops Q S fuel (listed.setIfInBounds i true) (a.put dst (.agg cells)) w) : wpAnyH P .any ops Q S (fuel + 1) listed a w :=
  hTake i _ dst _ hd hw hs hf hr hQ (fun o ho w _ => by
    rw [← Array.toList_map] at hv
    unfold execOp
    simp only [ho, Sem.run_bind, run_build w t _ cells (by rw [hv]; exact hb), Result.andThen_ok]
    rfl) hS h
theorem fill_one (s : Nat) (Z : Array Value) (cs : List Value) (hZ : Z.size = s) (hl : cs.length = s) : Instr.fill (fun i => some (i * s, s)) Z [(0, .agg cs.toArray)] = some cs.toArray := by
  have h1 : (Value.agg cs.toArray).cells = cs.toArray := rfl
  have h2 := part_eq [] Z.toList [] cs (by simp [hZ, hl])
  simp only [List.nil_append, List.append_nil, List.length_nil, Array.toArray_toList] at h2
  simp [Instr.fill, h1, hl]
  exact ⟨Nat.le_of_eq hZ.symm, h2⟩
theorem run_lit1 {t e s bytes : Nat} (T : SlT P t e s bytes) (cs : List Value) (hl : cs.length = s) (hs : s ≤ 1000) (w : World) : (Instr.buildSlice t 1 #[(0, .agg cs.toArray)]).run P w = .ok (.slice (some ⟨w.heap.size, 0, none⟩) 1 1) (w.alloc (.cells cs.toArray e)) := by
  obtain ⟨i, z, hi, hz, hsi, hby, hzs⟩ := T.hi
  have := T.hs
  refine run_buildSlice w t e 1 _ cs.toArray i z T.ht hi hz (by rw [hsi]; omega) (by rw [hsi]; omega) ?_
  rw [hsi]
  exact fill_one s _ cs (by simp) hl
/-- One of those that may come up: a slice literal of one row. -/
theorem rLit1 {rs : List Nat} (i : Nat) {t e s bytes : Nat} (T : SlT P t e s bytes) (x : Operand) (dst : Option Tmp) (hd : (ops[i]?).map (fun o => (o.op, o.dst)) = some (.buildSlice t 1 #[(0, x)], dst)) (hw : (ops[i]?).map (fun o => Region.wanted o (yielded ops a.tmps)) = some true)
    {cs : List Value} (hx : a.eval x = .agg cs.toArray) (hl : cs.length = s) (hs1 : s ≤ 1000) (hS : S (w.alloc (.cells cs.toArray e)))
    (h : wpAnyH P .any ops Q S fuel (listed.setIfInBounds i true) (a.put dst (.slice (some ⟨w.heap.size, 0, none⟩) 1 1)) (w.alloc (.cells cs.toArray e))) (hs : AllReadyH P .any ops Q S fuel listed a w rs) : AllReadyH P .any ops Q S fuel listed a w (i :: rs) :=
  rStep i _ dst _ _ hd hw (fun o ho => by
    have hrun := run_lit1 T cs hl hs1 w
    unfold execOp
    simp only [ho, Sem.run_bind, List.map_toArray, List.map_cons, List.map_nil, hx, hrun, Result.andThen_ok]
    rfl) hS h hs
/-- One of those that may come up: append onto a row of the call's own. -/
theorem rApp {rs : List Nat} (i : Nat) {t e s bytes : Nat} (T : SlT P t e s bytes) (p q : Operand) (dst : Option Tmp) (hd : (ops[i]?).map (fun o => (o.op, o.dst)) = some (.call { callee := .builtin .append, args := #[p, q], argTypes := #[t, t] }, dst)) (hw : (ops[i]?).map (fun o => Region.wanted o (yielded ops a.tmps)) = some true)
    {base n m : Nat} {v x : Value} {xs news : List Value} (hv : a.eval p = v) (hown : w.ownsRow base e s v n xs) (hxv : a.eval q = x) (hx : Sn w s x m news)
    (h1 : ∀ u ∈ news, u.oneCell' = true) (h63 : n + m ≤ maxLen) (hbytes : (n + m) * bytes ≤ 140737488355328) (hbase : base ≤ w.heap.size)
    (h : ∀ v' w', w'.ownsRow base e s v' (n + m) (xs ++ news) → w.grownBy w' v.ownBlock → (v'.ownBlock = v.ownBlock ∨ v'.ownBlock = some w.heap.size) → S w' ∧ (S w' → wpAnyH P .any ops Q S fuel (listed.setIfInBounds i true) (a.put dst v') w')) (hs : AllReadyH P .any ops Q S fuel listed a w rs) : AllReadyH P .any ops Q S fuel listed a w (i :: rs) := by
  cases ho : ops[i]? with
  | none => rw [ho] at hd; cases hd
  | some o =>
    have hd0 := hd
    rw [ho] at hd0
    simp only [Option.map_some, Option.some.injEq, Prod.mk.injEq] at hd0
    obtain ⟨v', w', hrun, h2, h3, h4⟩ := run_append_sn (ty := o.type) T hown hx h1 h63 hbytes hbase
    obtain ⟨h5, h6⟩ := h v' w' h2 h3 h4
    obtain ⟨hop, hdst⟩ := hd0
    rw [ho] at hw
    simp only [Option.map_some, Option.some.injEq] at hw
    refine AllReadyH.cons ho (fun K hK => ?_) hs
    rw [if_pos hw]
    unfold Oper.wp execOp
    simp only [hop, resolve, invoke, builtin, Sem.run_bind, Sem.run_pure, Result.andThen_ok, List.map_toArray, List.map_cons, List.map_nil, hv, hxv, hrun]
    rw [Oper.upon_value, hdst]
    exact hK.out _ _ h5 h6
end
end Go.Proofs.YtmhckcghfikeiaaDoor
