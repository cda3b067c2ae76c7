/- Laws for the walk inside a fence (a round's body; an iterator's calls of yield), out of the plain ones. No program is named here. -/
import Derived.Test.YtmaifldiondchaaDoorSeqZ
import Derived.Test.YtmaifldiondchaaDoorBlk
namespace Go.Proofs.YtmaifldiondchaaDoor
open Go.RowKit

section
variable {F : Fence} {n : Nat} {P : Program} {ops : Array Oper} {rest : List Oper} {o : Oper} {a : Act} {w : World} {Q : Exit → Act → World → Prop}
/-- An operation that yields a value. -/
theorem iVal {v : Value} {w' : World} (hF : ∀ f, F.fn f) (hs : ∀ ρ, o.semAt F.round ρ = execOp ρ o) (hw : Region.wanted o (yielded ops a.tmps) = true) (hrun : (execOp a.eval o).run P w = .ok (.value v) w')
    (h : wpListIn F n P ops Q rest (a.put o.dst v) w') : wpListIn F n P ops Q (o :: rest) a w :=
  wpListIn_step fun K hK => by
    rw [if_pos hw]
    refine ⟨fun f _ => hF f, ?_⟩
    rw [hs, hrun]
    exact hK _ _ h
/-- An operation that yields nothing. -/
theorem iSkp {w' : World} (hF : ∀ f, F.fn f) (hs : ∀ ρ, o.semAt F.round ρ = execOp ρ o) (hw : Region.wanted o (yielded ops a.tmps) = true) (hrun : (execOp a.eval o).run P w = .ok .skip w')
    (h : wpListIn F n P ops Q rest (a.put o.dst undef) w') : wpListIn F n P ops Q (o :: rest) a w :=
  wpListIn_step fun K hK => by
    rw [if_pos hw]
    refine ⟨fun f _ => hF f, ?_⟩
    rw [hs, hrun]
    exact hK _ _ h
/-- A row loaded from the middle of a block. -/
theorem iLd (ty : TypeId) (x : Operand) (ho : o.op = .load ty x) (hF : ∀ f, F.fn f) (hw : Region.wanted o (yielded ops a.tmps) = true)
    {b off : Nat} (hx : a.eval x = .pointer (some ⟨b, off, none⟩)) {cs : List Value} {d : TypeDesc} (hc : w.rangeAt b off cs)
    (hu : P.underlying ty = some d) (hd : d.isRow = true) (hi : (P.info? ty).map (·.size) = some cs.length)
    (h : wpListIn F n P ops Q rest (a.put o.dst (.agg cs.toArray)) w) : wpListIn F n P ops Q (o :: rest) a w := by
  refine iVal hF (fun ρ => Oper.semAt_eq _ _ _ (fun c => by rw [ho]; exact fun e => by cases e)) hw ?_ h
  unfold execOp
  simp only [ho, hx, Instr.loadAt, Instr.sureAddr, Sem.run_bind, Sem.run_pure, Result.andThen_ok, run_loadVar_mid w b off ty cs d hc hu hd hi]
/-- A whole row stored into a known block. -/
theorem iSt (ty : TypeId) (x y : Operand) (ho : o.op = .store ty x y) (hF : ∀ f, F.fn f) (hw : Region.wanted o (yielded ops a.tmps) = true)
    {g t : Nat} {old cells : Array Value} (hx : a.eval x = .pointer (some ⟨g, 0, none⟩)) (hy : a.eval y = .agg cells) (hB : Blk w g t old)
    (hi : (P.info? ty).map (·.size) = some cells.size) (hold : old.size = cells.size) (h1 : cells.all (·.oneCell') = true)
    (h : ∀ w2, Blk w2 g t cells → Below g w w2 → (∀ g', g' ≠ g → w2.heap[g']? = w.heap[g']?) → w2.heap.size = w.heap.size → wpListIn F n P ops Q rest (a.put o.dst undef) w2) :
    wpListIn F n P ops Q (o :: rest) a w := by
  refine iSkp (w' := w.setRow g cells) hF (fun ρ => Oper.semAt_eq _ _ _ (fun c => by rw [ho]; exact fun e => by cases e)) hw ?_ ?_
  · unfold execOp
    simp only [ho, hx, hy, Instr.storeAt, Instr.sureAddr, Sem.run_bind, Sem.run_pure, Result.andThen_ok, run_storeVar_row w g t ty old cells hB hi hold h1]
  · exact h _ (setRow_heap w g old cells t (0, 0) hB) ⟨rfl, rfl, rfl, by simp, fun k hk => setRow_other w g k cells (by omega)⟩ (fun g' hg => setRow_other w g g' cells hg) (by simp)
/-- A row stored into the block that was made last. -/
theorem iStNew (ty : TypeId) (x y : Operand) (ho : o.op = .store ty x y) (hF : ∀ f, F.fn f)
    {old cells : Array Value} {t : TypeId} (hw : Region.wanted o (yielded ops a.tmps) = true) (hx : a.eval x = .pointer (some ⟨w.heap.size, 0, none⟩)) (hy : a.eval y = .agg cells)
    (hi : (P.info? ty).map (·.size) = some cells.size) (hold : old.size = cells.size) (h1 : cells.all (·.oneCell') = true)
    (h : ∀ w2, w2 = w.alloc (.cells cells t) → wpListIn F n P ops Q rest (a.put o.dst undef) w2) : wpListIn F n P ops Q (o :: rest) a (w.alloc (.cells old t)) := by
  refine iSkp (w' := w.alloc (.cells cells t)) hF (fun ρ => Oper.semAt_eq _ _ _ (fun c => by rw [ho]; exact fun e => by cases e)) hw ?_ (h _ rfl)
  unfold execOp
  simp only [ho, hx, hy, Instr.storeAt, Instr.sureAddr, Sem.run_bind, Sem.run_pure, Result.andThen_ok, run_storeVar_row (w.alloc (.cells old t)) w.heap.size t ty old cells (heap_alloc_new w _) hi hold h1]
  rw [setRow_alloc]
/-- A variable of many cells is made. -/
theorem iAl (ty : TypeId) (zs : Array Value) (ho : o.op = .alloc ty) (hF : ∀ f, F.fn f) (hw : Region.wanted o (yielded ops a.tmps) = true) (hz : ∀ w, (zeroValue ty).run P w = .ok (.agg zs) w)
    (h : wpListIn F n P ops Q rest (a.put o.dst (.pointer (some ⟨w.heap.size, 0, none⟩))) (w.alloc (.cells zs ty))) : wpListIn F n P ops Q (o :: rest) a w := by
  refine iVal (v := .pointer (some ⟨w.heap.size, 0, none⟩)) (w' := w.alloc (.cells zs ty)) hF (fun ρ => Oper.semAt_eq _ _ _ (fun c => by rw [ho]; exact fun e => by cases e)) hw ?_ h
  unfold execOp
  simp only [ho]
  unfold Instr.alloc newVar newRow
  simp [Sem.run_bind, hz, Value.cells]
/-- append onto a row of the call's own. -/
theorem iApp {t e s bytes : Nat} (T : SlT P t e s bytes) (p q : Operand) (hF : ∀ f, F.fn f)
    (ho : o.op = .call { callee := .builtin .append, args := #[p, q], argTypes := #[t, t] }) (hw : Region.wanted o (yielded ops a.tmps) = true)
    {base k m : Nat} {v x : Value} {xs news : List Value} (hv : a.eval p = v) (hown : w.ownsRow base e s v k xs) (hxv : a.eval q = x) (hx : Sn w s x m news)
    (h1 : ∀ u ∈ news, u.oneCell' = true) (h63 : k + m ≤ maxLen) (hbytes : (k + m) * bytes ≤ 140737488355328) (hbase : base ≤ w.heap.size)
    (h : ∀ v' w', w'.ownsRow base e s v' (k + m) (xs ++ news) → w.grownBy w' v.ownBlock → (v'.ownBlock = v.ownBlock ∨ v'.ownBlock = some w.heap.size) → wpListIn F n P ops Q rest (a.put o.dst v') w') :
    wpListIn F n P ops Q (o :: rest) a w := by
  obtain ⟨v', w', hrun, h2, h3, h4⟩ := run_append_sn (ty := o.type) T hown hx h1 h63 hbytes hbase
  refine iVal (v := v') (w' := w') hF (fun ρ => Oper.semAt_eq _ _ _ (fun c => by rw [ho]; exact fun e => by cases e)) hw ?_ (h v' w' h2 h3 h4)
  unfold execOp
  simp only [ho, resolve, invoke, builtin, Sem.run_bind, Sem.run_pure, Result.andThen_ok, List.map_toArray, List.map_cons, List.map_nil, hv, hxv, hrun]
end
theorem wide_fn (f : FuncId) : Fence.wide.fn f := trivial
theorem round_fn (l : Nat) (f : FuncId) : (Fence.wide.inRound l).fn f := trivial
/-- A contract in a round of the wide fence. -/
theorem inR {P : Program} {n : Nat} {f : FuncId} {args : Array Value} {w : World} {R : Ending → World → Prop} (l : Nat) (h : Calls P f args w R) : CallsIn (Fence.wide.inRound l) n P f args w R := CallsIn.inRound l (callsIn_wide.2 h)
/-- A contract out of a walk that ends with marks. -/
theorem calls_marks {P : Program} {f : FuncId} {fn : Func} {c : Code} {args : Array Value} {w : World} {R : Ending → World → Prop} (hf : P.funcs[f]? = some fn) (hb : fn.body = some c)
    (h : c.wpIn Fence.wide 9 P (bodyPostM Fence.wide 9 P fn R) { tmps := args ++ Array.replicate (fn.ntmps - args.size) undef, defers := [] } w) : Calls P f args w R :=
  callsIn_wide.1 (callsIn_of_wp_marks hf hb trivial h)
end Go.Proofs.YtmaifldiondchaaDoor
