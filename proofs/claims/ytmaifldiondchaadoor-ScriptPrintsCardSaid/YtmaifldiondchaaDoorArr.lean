/- Arms of the walk for arrays of many cells: made, copied into, handed back. No program is named here. -/
import Derived.Test.YtmaifldiondchaaDoorHeld
import Derived.Test.YtmaifldiondchaaDoorSetRow0
import Derived.Laws.IdiomCopy
import Derived.Laws.ResultCell
namespace Go.Proofs.YtmaifldiondchaaDoor
open Go.RowKit
section
variable {P : Program} {ops : Array Oper} {rest : List Oper} {o : Oper} {a : Act} {w : World} {Q : Exit → Act → World → Prop}
/-- A variable of many cells is made. -/
theorem al (ty : TypeId) (zs : Array Value) (ho : o.op = .alloc ty) (hw : Region.wanted o (yielded ops a.tmps) = true) (hz : ∀ w, (zeroValue ty).run P w = .ok (.agg zs) w)
    (h : wpList P ops Q rest (a.put o.dst (.pointer (some ⟨w.heap.size, 0, none⟩))) (w.alloc (.cells zs ty))) : wpList P ops Q (o :: rest) a w :=
  wpList_step fun K hK => by
    rw [if_pos hw]
    unfold Oper.wp
    have : (execOp a.eval o).run P w = .ok (.value (.pointer (some ⟨w.heap.size, 0, none⟩))) (w.alloc (.cells zs ty)) := by
      unfold execOp
      simp only [ho]
      unfold Instr.alloc newVar newRow
      simp [Sem.run_bind, hz, Value.cells]
    rw [this, Oper.upon_value]
    exact hK _ _ h
theorem run_copy_sn {dT sT ty elem : TypeId} {b off dn dc n : Nat} {v : Value} {xs : List Value} (hu : P.underlying dT = some (.slice elem)) (hs : (P.info? elem).map (·.size) = some 1) (hx : Sn w 1 v n xs) (hn : n ≤ dn) (ht : w.there b off n) (h1 : ∀ u ∈ xs, u.oneCell' = true) :
    (Builtin.copy_ #[dT, sT] ty #[.slice (some ⟨b, off, none⟩) dn dc, v]).run P w = .ok (goInt n) (w.setCells b off xs) := by
  obtain ⟨A, cap, rfl, hc, hl, hcell⟩ := hx
  rcases Nat.eq_zero_or_pos n with rfl | hp
  · obtain rfl : xs = [] := List.eq_nil_of_length_eq_zero (by simpa using hl)
    cases A with
    | none =>
      cases hq : P.info? elem with
      | none => simp [hq] at hs
      | some i => simp [Builtin.copy_, run_underlying hu, Builtin.lenOf, Builtin.firstCells, sizeOf, typeInfo, hq, storeCells, World.setCells]
    | some a => exact run_copy_cells w dT sT ty elem b off dn dc a 0 cap [] hu hs (by simp) (fun j v h => by simp at h) (fun j h => by simp at h) (fun j h => by simp at h) (fun v h => by simp at h)
  · obtain ⟨b', off', rfl, hr⟩ := hcell hp
    have hln : xs.length = n := by omega
    have := run_copy_cells w dT sT ty elem b off dn dc ⟨b', off', none⟩ n cap xs hu hs (by rw [hln]; exact (Nat.min_eq_left hn).symm) (fun j v hj => by rw [Addr.add_mid]; exact hr j v hj) (fun j hj => (ht j (by omega)).1) (fun j hj => (ht j (by omega)).2) h1
    rw [hln] at this
    exact this
/-- copy, the source any slice. -/
theorem cp {dT sT elem : TypeId} (p q : Operand) (ho : o.op = .call { callee := .builtin .copy, args := #[p, q], argTypes := #[dT, sT] }) (hw : Region.wanted o (yielded ops a.tmps) = true)
    {b off dn dc n : Nat} {v : Value} {xs : List Value} (hp : a.eval p = .slice (some ⟨b, off, none⟩) dn dc) (hq : a.eval q = v) (hu : P.underlying dT = some (.slice elem)) (hs : (P.info? elem).map (·.size) = some 1) (hx : Sn w 1 v n xs) (hn : n ≤ dn) (ht : w.there b off n) (h1 : ∀ u ∈ xs, u.oneCell' = true)
    (h : wpList P ops Q rest (a.put o.dst (goInt n)) (w.setCells b off xs)) : wpList P ops Q (o :: rest) a w :=
  wpList_step fun K hK => by
    rw [if_pos hw]
    have hrun := run_copy_sn (P := P) (ty := o.type) (sT := sT) (dc := dc) hu hs hx hn ht h1
    unfold Oper.wp execOp
    simp only [ho, resolve, invoke, builtin, Sem.run_bind, Sem.run_pure, Result.andThen_ok, List.map_toArray, List.map_cons, List.map_nil, hp, hq, hrun]
    exact hK _ _ h
/-- copy, in a region that draws its order. -/
theorem rCopy {S : World → Prop} {listed : Array Bool} {fuel : Nat} {rs : List Nat} (i : Nat) {dT sT elem : TypeId} (p q : Operand) (dst : Option Tmp) (hd : (ops[i]?).map (fun o => (o.op, o.dst)) = some (.call { callee := .builtin .copy, args := #[p, q], argTypes := #[dT, sT] }, dst)) (hw : (ops[i]?).map (fun o => Region.wanted o (yielded ops a.tmps)) = some true)
    {b off dn dc n : Nat} {v : Value} {xs : List Value} (hp : a.eval p = .slice (some ⟨b, off, none⟩) dn dc) (hq : a.eval q = v) (hu : P.underlying dT = some (.slice elem)) (hs : (P.info? elem).map (·.size) = some 1) (hx : Sn w 1 v n xs) (hn : n ≤ dn) (ht : w.there b off n) (h1 : ∀ u ∈ xs, u.oneCell' = true) (hS : S (w.setCells b off xs))
    (h : wpAnyH P .any ops Q S fuel (listed.setIfInBounds i true) (a.put dst (goInt n)) (w.setCells b off xs)) (hr : AllReadyH P .any ops Q S fuel listed a w rs) : AllReadyH P .any ops Q S fuel listed a w (i :: rs) :=
  rStep i _ dst _ _ hd hw (fun o ho => by
    have hrun := run_copy_sn (P := P) (ty := o.type) (sT := sT) (dc := dc) hu hs hx hn ht h1
    unfold execOp
    simp only [ho, resolve, invoke, builtin, Sem.run_bind, Sem.run_pure, Result.andThen_ok, List.map_toArray, List.map_cons, List.map_nil, hp, hq, hrun]) hS h hr
theorem results_cellR_tmp {fn : Func} {p u : Tmp} {ty : TypeId} (h : fn.results = #[.cell p ty, .tmp u]) (tmps : Array Value) {b off : Nat} {cs : List Value} {d : TypeDesc} (hp : tmps.getD p undef = .pointer (some ⟨b, off, none⟩)) (hc : w.rangeAt b off cs)
    (hu : P.underlying ty = some d) (hd : d.isRow = true) (hi : (P.info? ty).map (·.size) = some cs.length) : (results fn tmps).run P w = .ok (.tuple #[.agg cs.toArray, tmps.getD u undef]) w := by
  rw [results_cell_tmp h, hp]
  simp only [asAddr, Sem.run_pure, Result.andThen_ok, run_loadVar_mid w b off ty cs d hc hu hd hi]
end
end Go.Proofs.YtmaifldiondchaaDoor
