/- The walk through a region that draws its order, by hand: laws whose conditions the kernel reckons. No program is named here. -/
import Derived.Test.YtmaifldiondchaaDoorArms
import Derived.Deep.RegionHeld3
namespace Go.Proofs.YtmaifldiondchaaDoor
open Go.RowKit
section
variable {P : Program} {ops : Array Oper} {Q : Exit → Act → World → Prop} {S : World → Prop} {a : Act} {w : World} {listed : Array Bool} {fuel : Nat}
theorem held_start (n : Nat) (S : World → Prop) {id : Nat} (hm : P.follows .mixedOrders = true) (hn : ops.size = n) (hS : S w.drew)
    (h : S w.drew → wpAnyH P .any ops Q S n (Array.replicate n false) a w.drew) : (Code.region id ops true).wp P Q a w := by
  subst hn
  exact wp_region_held_drew hm hS h
/-- Operation i yields v in every world that meets S: it is taken first. -/
theorem hTake (i : Nat) (op : Op) (dst : Option Tmp) (v : Value) (hd : (ops[i]?).map (fun o => (o.op, o.dst)) = some (op, dst)) (hw : (ops[i]?).map (fun o => Region.wanted o (yielded ops a.tmps)) = some true)
    (hs : Region.noSelect ops = true) (hf : Region.free .any ops listed i = true) (hr : (Region.ready .any ops listed).contains i = true)
    (hQ : ∀ c a w, Q (.panic c) (a.put dst v) w → Q (.panic c) a w) (hy : ∀ o : Oper, o.op = op → ∀ w, S w → (execOp a.eval o).run P w = .ok (.value v) w) (hS : S w)
    (h : wpAnyH P .any ops Q S fuel (listed.setIfInBounds i true) (a.put dst v) w) : wpAnyH P .any ops Q S (fuel + 1) listed a w := by
  cases ho : ops[i]? with
  | none => rw [ho] at hd; cases hd
  | some o =>
    rw [ho] at hd hw
    simp only [Option.map_some, Option.some.injEq, Prod.mk.injEq] at hd hw
    obtain ⟨h1, h2⟩ := hd
    subst h2
    exact wpAnyH_take ho hs hf hr hQ (.inl ⟨hw, hy o h1⟩) hS h
/-- A guarded operation that is not wanted. -/
theorem hSkip (i : Nat) (dst : Option Tmp) (hd : (ops[i]?).map (·.dst) = some dst) (hw : (ops[i]?).map (fun o => Region.wanted o (yielded ops a.tmps)) = some false)
    (hs : Region.noSelect ops = true) (hf : Region.free .any ops listed i = true) (hr : (Region.ready .any ops listed).contains i = true)
    (hQ : ∀ c a w, Q (.panic c) (a.put dst undef) w → Q (.panic c) a w) (hS : S w)
    (h : wpAnyH P .any ops Q S fuel (listed.setIfInBounds i true) (a.put dst undef) w) : wpAnyH P .any ops Q S (fuel + 1) listed a w := by
  cases ho : ops[i]? with
  | none => rw [ho] at hd; cases hd
  | some o =>
    rw [ho] at hd hw
    simp only [Option.map_some, Option.some.injEq] at hd hw
    subst hd
    exact wpAnyH_take ho hs hf hr hQ (.inr ⟨hw, rfl⟩) hS h
/-- A row is loaded. -/
theorem hLoad (i : Nat) (ty : TypeId) (x : Operand) (dst : Option Tmp) {b off : Nat} {cs : List Value} {d : TypeDesc} (hd : (ops[i]?).map (fun o => (o.op, o.dst)) = some (.load ty x, dst)) (hw : (ops[i]?).map (fun o => Region.wanted o (yielded ops a.tmps)) = some true)
    (hs : Region.noSelect ops = true) (hf : Region.free .any ops listed i = true) (hr : (Region.ready .any ops listed).contains i = true)
    (hQ : ∀ c a w, Q (.panic c) (a.put dst (.agg cs.toArray)) w → Q (.panic c) a w) (hx : a.eval x = .pointer (some ⟨b, off, none⟩)) (hc : ∀ w, S w → w.rangeAt b off cs) (hu : P.underlying ty = some d) (hr' : d.isRow = true) (hi : (P.info? ty).map (·.size) = some cs.length) (hS : S w)
    (h : wpAnyH P .any ops Q S fuel (listed.setIfInBounds i true) (a.put dst (.agg cs.toArray)) w) : wpAnyH P .any ops Q S (fuel + 1) listed a w :=
  hTake i _ dst _ hd hw hs hf hr hQ (fun o ho w hw => by
    unfold execOp
    simp only [ho, hx, Instr.loadAt, Instr.sureAddr, Sem.run_bind, Sem.run_pure, Result.andThen_ok, run_loadVar_mid w b off ty cs d (hc w hw) hu hr' hi]) hS h
/-- A cell is loaded. -/
theorem hMove (i : Nat) (x : Operand) (dst : Option Tmp) (v : Value) (hd : (ops[i]?).map (fun o => (o.op, o.dst)) = some (.move x, dst)) (hw : (ops[i]?).map (fun o => Region.wanted o (yielded ops a.tmps)) = some true)
    (hs : Region.noSelect ops = true) (hf : Region.free .any ops listed i = true) (hr : (Region.ready .any ops listed).contains i = true)
    (hQ : ∀ c a w, Q (.panic c) (a.put dst v) w → Q (.panic c) a w) (hx : a.eval x = v) (hS : S w)
    (h : wpAnyH P .any ops Q S fuel (listed.setIfInBounds i true) (a.put dst v) w) : wpAnyH P .any ops Q S (fuel + 1) listed a w :=
  hTake i _ dst _ hd hw hs hf hr hQ (fun o ho w _ => by
    unfold execOp
    simp only [ho, hx, Sem.run_pure]) hS h
/-- One of those that may come up: a row is loaded. -/
theorem rLoad {rs : List Nat} (i : Nat) (ty : TypeId) (x : Operand) (dst : Option Tmp) {b off : Nat} {cs : List Value} {d : TypeDesc} (hd : (ops[i]?).map (fun o => (o.op, o.dst)) = some (.load ty x, dst)) (hw : (ops[i]?).map (fun o => Region.wanted o (yielded ops a.tmps)) = some true)
    (hx : a.eval x = .pointer (some ⟨b, off, none⟩)) (hc : w.rangeAt b off cs) (hu : P.underlying ty = some d) (hr' : d.isRow = true) (hi : (P.info? ty).map (·.size) = some cs.length)
    (h : wpAnyH P .any ops Q (fun _ => True) fuel (listed.setIfInBounds i true) (a.put dst (.agg cs.toArray)) w) (hs : AllReadyH P .any ops Q (fun _ => True) fuel listed a w rs) : AllReadyH P .any ops Q (fun _ => True) fuel listed a w (i :: rs) := by
  cases ho : ops[i]? with
  | none => rw [ho] at hd; cases hd
  | some o =>
    rw [ho] at hd hw
    simp only [Option.map_some, Option.some.injEq, Prod.mk.injEq] at hd hw
    obtain ⟨h1, h2⟩ := hd
    subst h2
    refine AllReadyH.cons ho (fun K hK => ?_) hs
    rw [if_pos hw]
    exact wp_load_mid ty x h1 b off hx cs d hc hu hr' hi (hK.out _ _ trivial (fun _ => h))
/-- One of those that may come up: a row is stored. -/
theorem rStore {rs : List Nat} (i : Nat) (ty : TypeId) (x y : Operand) (dst : Option Tmp) {b off : Nat} {cs : List Value} (hd : (ops[i]?).map (fun o => (o.op, o.dst)) = some (.store ty x y, dst)) (hw : (ops[i]?).map (fun o => Region.wanted o (yielded ops a.tmps)) = some true)
    (hx : a.eval x = .pointer (some ⟨b, off, none⟩)) (hy : a.eval y = .agg cs.toArray) (ht : w.there b off cs.length) (hi : (P.info? ty).map (·.size) = some cs.length) (h1 : ∀ u ∈ cs, u.oneCell' = true)
    (h : wpAnyH P .any ops Q (fun _ => True) fuel (listed.setIfInBounds i true) (a.put dst undef) (w.setCells b off cs)) (hs : AllReadyH P .any ops Q (fun _ => True) fuel listed a w rs) : AllReadyH P .any ops Q (fun _ => True) fuel listed a w (i :: rs) := by
  cases ho : ops[i]? with
  | none => rw [ho] at hd; cases hd
  | some o =>
    rw [ho] at hd hw
    simp only [Option.map_some, Option.some.injEq, Prod.mk.injEq] at hd hw
    obtain ⟨h2, h3⟩ := hd
    subst h3
    refine AllReadyH.cons ho (fun K hK => ?_) hs
    rw [if_pos hw]
    refine wp_store_mid ty x y h2 b off cs.toArray hx hy (by simpa using ht) (by simpa using hi) (all_oneCell_toArray h1) ?_
    rw [List.toList_toArray]
    exact hK.out _ _ trivial (fun _ => h)
/-- One of those that may come up: it yields v and leaves w2. -/
theorem rStep {rs : List Nat} (i : Nat) (op : Op) (dst : Option Tmp) (v : Value) (w2 : World) (hd : (ops[i]?).map (fun o => (o.op, o.dst)) = some (op, dst)) (hw : (ops[i]?).map (fun o => Region.wanted o (yielded ops a.tmps)) = some true)
    (hrun : ∀ o : Oper, o.op = op → (execOp a.eval o).run P w = .ok (.value v) w2) (hS : S w2)
    (h : wpAnyH P .any ops Q S fuel (listed.setIfInBounds i true) (a.put dst v) w2) (hs : AllReadyH P .any ops Q S fuel listed a w rs) : AllReadyH P .any ops Q S fuel listed a w (i :: rs) := by
  cases ho : ops[i]? with
  | none => rw [ho] at hd; cases hd
  | some o =>
    rw [ho] at hd hw
    simp only [Option.map_some, Option.some.injEq, Prod.mk.injEq] at hd hw
    obtain ⟨h2, h3⟩ := hd
    subst h3
    refine AllReadyH.cons ho (fun K hK => ?_) hs
    rw [if_pos hw]
    unfold Oper.wp
    rw [hrun o h2, Oper.upon_value]
    exact hK.out _ _ hS (fun _ => h)
/-- One of those that may come up: a row is stored. -/
theorem rStoreS {rs : List Nat} (i : Nat) (ty : TypeId) (x y : Operand) (dst : Option Tmp) {b off : Nat} {cs : List Value} (hd : (ops[i]?).map (fun o => (o.op, o.dst)) = some (.store ty x y, dst)) (hw : (ops[i]?).map (fun o => Region.wanted o (yielded ops a.tmps)) = some true)
    (hx : a.eval x = .pointer (some ⟨b, off, none⟩)) (hy : a.eval y = .agg cs.toArray) (ht : w.there b off cs.length) (hi : (P.info? ty).map (·.size) = some cs.length) (h1 : ∀ u ∈ cs, u.oneCell' = true) (hS : S (w.setCells b off cs))
    (h : wpAnyH P .any ops Q S fuel (listed.setIfInBounds i true) (a.put dst undef) (w.setCells b off cs)) (hs : AllReadyH P .any ops Q S fuel listed a w rs) : AllReadyH P .any ops Q S fuel listed a w (i :: rs) := by
  cases ho : ops[i]? with
  | none => rw [ho] at hd; cases hd
  | some o =>
    rw [ho] at hd hw
    simp only [Option.map_some, Option.some.injEq, Prod.mk.injEq] at hd hw
    obtain ⟨h2, h3⟩ := hd
    subst h3
    refine AllReadyH.cons ho (fun K hK => ?_) hs
    rw [if_pos hw]
    refine wp_store_mid ty x y h2 b off cs.toArray hx hy (by simpa using ht) (by simpa using hi) (all_oneCell_toArray h1) ?_
    rw [List.toList_toArray]
    exact hK.out _ _ hS (fun _ => h)
/-- One of those that may come up: a call of a Go function. -/
theorem rCall {rs : List Nat} (i : Nat) (op : Op) (dst : Option Tmp) (f : FuncId) (args : Array Value) (hd : (ops[i]?).map (fun o => (o.op, o.dst)) = some (op, dst)) (hw : (ops[i]?).map (fun o => Region.wanted o (yielded ops a.tmps)) = some true)
    (hent : ∀ o : Oper, o.op = op → (execOp a.eval o).run P w = .ok (.enter f args) w)
    (h : Calls P f args w fun e w' => ∃ v, e = .returned v ∧ S w' ∧ (S w' → wpAnyH P .any ops Q S fuel (listed.setIfInBounds i true) (a.put dst v) w')) (hs : AllReadyH P .any ops Q S fuel listed a w rs) : AllReadyH P .any ops Q S fuel listed a w (i :: rs) := by
  cases ho : ops[i]? with
  | none => rw [ho] at hd; cases hd
  | some o =>
    rw [ho] at hd hw
    simp only [Option.map_some, Option.some.injEq, Prod.mk.injEq] at hd hw
    obtain ⟨h2, h3⟩ := hd
    subst h3
    refine AllReadyH.cons ho (fun K hK => ?_) hs
    rw [if_pos hw]
    unfold Oper.wp
    rw [hent o h2, Oper.upon_enter]
    refine h.mono ?_
    rintro e w' ⟨v, rfl, hS, hk⟩
    exact hK.out _ _ hS hk
/-- One of those that may come up: a variable of many cells is made. -/
theorem rAlloc {rs : List Nat} (i : Nat) (ty : TypeId) (dst : Option Tmp) (zs : Array Value) (hd : (ops[i]?).map (fun o => (o.op, o.dst)) = some (.alloc ty, dst)) (hw : (ops[i]?).map (fun o => Region.wanted o (yielded ops a.tmps)) = some true)
    (hz : ∀ w, (zeroValue ty).run P w = .ok (.agg zs) w) (hS : S (w.alloc (.cells zs ty)))
    (h : wpAnyH P .any ops Q S fuel (listed.setIfInBounds i true) (a.put dst (.pointer (some ⟨w.heap.size, 0, none⟩))) (w.alloc (.cells zs ty))) (hs : AllReadyH P .any ops Q S fuel listed a w rs) : AllReadyH P .any ops Q S fuel listed a w (i :: rs) :=
  rStep i (.alloc ty) dst _ _ hd hw (fun o ho => by
    unfold execOp
    simp only [ho]
    unfold Instr.alloc newVar newRow
    simp [Sem.run_bind, hz, Value.cells]) hS h hs
end
end Go.Proofs.YtmaifldiondchaaDoor
