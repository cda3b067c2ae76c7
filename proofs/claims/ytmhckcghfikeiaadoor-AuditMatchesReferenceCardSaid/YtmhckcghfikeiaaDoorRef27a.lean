/- tollref27.Find: what it needs ahead of the walk. -/
import Derived.Test.YtmhckcghfikeiaaDoorAwake27
namespace Go.Proofs.YtmhckcghfikeiaaDoor
open Go.RowKit
set_option linter.unusedSimpArgs false

theorem tRef : SlT Tryd.prog 29 33 2 24 := SlT.mk' Tryd.underlying29 (z := .agg #[.string ByteArray.empty, .int .i64 0]) (by kernel_rfl) rfl (by decide)
theorem tDig : SlT Tryd.prog 55 47 32 32 := SlT.mk' Tryd.underlying55 (z := .agg (u8s (List.replicate 32 0)).toArray) (by kernel_rfl) rfl (by decide)
/-- Two rows of the call's own, of different kinds, lie in different blocks. -/
theorem own_apart {w : World} {base base' e e' s s' n n' : Nat} {v v' : Value} {xs ys : List Value} (h : w.ownsRow base e s v n xs) (h' : w.ownsRow base' e' s' v' n' ys) (hte : e ≠ e') : v'.ownBlock = none ∨ v'.ownBlock ≠ v.ownBlock := by
  rcases h'.2 with ⟨rfl, _⟩ | ⟨g, cap, cur, rfl, _, hh, _⟩
  · exact .inl rfl
  · right
    intro he
    rcases h.2 with ⟨rfl, _⟩ | ⟨g', cap', cur', rfl, _, hh', _⟩
    · cases he
    · have : g = g' := Option.some.inj he
      subst this
      rw [hh] at hh'
      injection hh' with hh'
      injection hh' with _ h2 _
      exact hte h2.symm
theorem lits_dig (D : Nat) {d : List Int} (h : DigOk d) : Tryd.prog.keyLits (D + 2) 47 (u8s d) = some (d.map (Lit.int .u8)) := by
  have hc : Tryd.prog.cellsOf 47 = 32 := by kernel_rfl
  have hc1 : Tryd.prog.cellsOf 5 = 1 := by kernel_rfl
  have hl : (u8s d).length = 32 := by simp [u8s, h.len]
  unfold Program.keyLits
  rw [Tryd.underlying47]
  simp only [hc, hl, hc1, if_true, Nat.mul_one]
  rw [mapM_of (g := fun i => [Lit.int .u8 (d.getD i 0)]) (fun i hi => ?_)]
  · simp only [Option.map_some, Option.some.injEq]
    have hfl : ((List.range 32).map fun i => [Lit.int .u8 (d.getD i 0)]).flatten = (List.range 32).map fun i => Lit.int .u8 (d.getD i 0) := by
      rw [← List.flatMap_def, ← List.map_eq_flatMap]
    rw [hfl]
    apply List.ext_getElem
    · simp [h.len]
    · intro i h1 h2
      have hi : i < 32 := by simpa [h.len] using h2
      simp [show i < d.length by rw [h.len]; exact hi]
  · have hi : i < 32 := by simpa using hi
    have hlt : i < d.length := by rw [h.len]; exact hi
    have e : ((u8s d).drop i).take 1 = [.int .u8 (d.getD i 0)] := by
      have hlt' : i < (u8s d).length := by rw [hl]; exact hi
      rw [List.drop_eq_getElem_cons hlt']
      simp [u8s, hlt]
    rw [e]
    exact lits_u8 D _ (h.byte _ (by simp [hlt]))
theorem run_eqD {p q : List Int} (hp : DigOk p) (hq : DigOk q) (w : World) : (Op.equalIn 10000 47 (.agg (u8s p).toArray) (.agg (u8s q).toArray)).run Tryd.prog w = .ok (decide (p = q)) w := by
  have hu := Tryd.underlying47
  have hc : Tryd.prog.cellsOf 47 = 32 := by kernel_rfl
  have form : ∀ x : List Int, DigOk x → Value.formed Tryd.prog 47 (.agg (u8s x).toArray) = true := fun x hx => by
    unfold Value.formed
    rw [hu]
    simp [hc, u8s, hx.len]
  have cells : ∀ x : List Int, (Value.agg (u8s x).toArray).cells.toList = u8s x := fun x => by
    show (u8s x).toArray.toList = _
    simp
  obtain ⟨r, hr, hiff⟩ := run_equalIn_deep (P := Tryd.prog) 9997 3 47 (by kernel_rfl) w 3 3 (.agg (u8s p).toArray) (.agg (u8s q).toArray) _ _ (form p hp) (form q hq) (by rw [cells]; exact lits_dig 1 hp) (by rw [cells]; exact lits_dig 1 hq)
  rw [hr]
  congr 1
  by_cases h : p = q
  · subst h
    simpa using hiff.2 rfl
  · have : ¬ r = true := fun e => h (by
      have key : ∀ a b : List Int, a.map (Lit.int .u8) = b.map (Lit.int .u8) → a = b := by
        intro a
        induction a with
        | nil => intro b hb; cases b with
          | nil => rfl
          | cons => simp at hb
        | cons x a ih => intro b hb; cases b with
          | nil => simp at hb
          | cons y b =>
            simp only [List.map_cons, List.cons.injEq, Lit.int.injEq, true_and] at hb
            rw [hb.1, ih b hb.2]
      exact key _ _ (hiff.1 e))
    simpa [h] using this
/-- What stands between two rules of a round. -/
structure RI (w0 : World) (m acc : Value) (fs : List (Nat × Nat)) (ds : List (List Int)) (w : World) : Prop where
  out : w.ownsRow w0.heap.size 33 2 m fs.length (fs.flatMap findC)
  acc : w.ownsRow w0.heap.size 47 32 acc ds.length (ds.flatMap u8s)
  bel : Below w0.heap.size w0 w
theorem RI.drewN {w0 : World} {m acc : Value} {fs : List (Nat × Nat)} {ds : List (List Int)} {w : World} (h : RI w0 m acc fs ds w) (d : Nat) : RI w0 m acc fs ds (w.drewN d) :=
  ⟨own_below h.out (bdrewN (Below.refl _ _) d), own_below h.acc (bdrewN (Below.refl _ _) d), bdrewN h.bel d⟩
/-- A finding is added. -/
theorem RI.add {w0 : World} {m acc : Value} {fs : List (Nat × Nat)} {ds : List (List Int)} {w w' : World} {m' : Value} {o : Obj} {x : Nat × Nat} (h : RI w0 m acc fs ds w)
    (hown : w'.ownsRow w0.heap.size 33 2 m' (fs.length + 1) (fs.flatMap findC ++ findC x)) (hg : (w.alloc o).grownBy w' m.ownBlock) : RI w0 m' acc (fs ++ [x]) ds w' where
  out := by
    rw [List.length_append, List.length_singleton, List.flatMap_append]
    simpa using hown
  acc := (h.acc.alloc o).kept hg (own_apart (h.out.alloc o) (h.acc.alloc o) (by decide))
  bel := (h.bel.alloc h.bel.size o).grown hg (by have := h.bel.size; simp; omega) (fun g hgb => (h.out.lt g hgb).1)
/-- A digest is added. -/
theorem RI.put {w0 : World} {m acc : Value} {fs : List (Nat × Nat)} {ds : List (List Int)} {w w' : World} {a' : Value} {o : Obj} {x : List Int} (h : RI w0 m acc fs ds w)
    (hown : w'.ownsRow w0.heap.size 47 32 a' (ds.length + 1) (ds.flatMap u8s ++ u8s x)) (hg : (w.alloc o).grownBy w' acc.ownBlock) : RI w0 m a' fs (ds ++ [x]) w' where
  out := (h.out.alloc o).kept hg (own_apart (h.acc.alloc o) (h.out.alloc o) (by decide))
  acc := by
    rw [List.length_append, List.length_singleton, List.flatMap_append]
    simpa using hown
  bel := (h.bel.alloc h.bel.size o).grown hg (by have := h.bel.size; simp; omega) (fun g hgb => (h.acc.lt g hgb).1)
/-- A slice literal of one row. -/
theorem lit1 {P : Program} {ops : Array Oper} {rest : List Oper} {o : Oper} {a : Act} {w : World} {Q : Exit → Act → World → Prop} {t e s bytes : Nat} (T : SlT P t e s bytes) (x : Operand) (ho : o.op = .buildSlice t 1 #[(0, x)]) (hw : Region.wanted o (yielded ops a.tmps) = true)
    {cs : List Value} (hx : a.eval x = .agg cs.toArray) (hl : cs.length = s) (hs1 : s ≤ 1000)
    (h : wpList P ops Q rest (a.put o.dst (.slice (some ⟨w.heap.size, 0, none⟩) 1 1)) (w.alloc (.cells cs.toArray e))) : wpList P ops Q (o :: rest) a w :=
  wpList_step fun K hK => by
    rw [if_pos hw]
    unfold Oper.wp
    have : (execOp a.eval o).run P w = .ok (.value (.slice (some ⟨w.heap.size, 0, none⟩) 1 1)) (w.alloc (.cells cs.toArray e)) := by
      have hrun := run_lit1 T cs hl hs1 w
      unfold execOp
      simp only [ho, Sem.run_bind, List.map_toArray, List.map_cons, List.map_nil, hx, hrun, Result.andThen_ok]
      rfl
    rw [this, Oper.upon_value]
    exact hK _ _ h
end Go.Proofs.YtmhckcghfikeiaaDoor
