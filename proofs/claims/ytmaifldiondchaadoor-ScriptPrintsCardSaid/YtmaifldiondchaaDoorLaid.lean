/- From the list of laid tables to what each table holds. No program is named here but for the names of the seat. -/
import Derived.Lib.LaidTab
import Derived.OpenShut
namespace Go.Proofs.YtmaifldiondchaaDoor
theorem laidVars_at {P : Program} {W : World} : ∀ {laid : List (String × DataW Unit)} {ps : List MemPlace}, DataW.LaidVars P W laid ps → ∀ (i : Nat) (x : String × DataW Unit), laid[i]? = some x → ∃ q rest, DataW.LaidVars P W (x :: rest) q
  | [], _, _, i, x, hi => by simp at hi
  | y :: r, ps, h, 0, x, hi => by
    obtain rfl : y = x := by simpa using hi
    exact ⟨ps, r, h⟩
  | (n, d) :: r, ps, h, i + 1, x, hi => by
    obtain ⟨_, _, _, _, _, q, _, _, _, _, h', _⟩ := h
    exact laidVars_at h' i x (by simpa using hi)
/-- The table that stands at place i of the list. -/
theorem tabIs_at {P : Program} {W : World} {laid : List (String × DataW Unit)} {name : String} {k : IntKind} {zs : List Int} {g : Nat} {t e : TypeId} {n : Nat} (i : Nat) (hi : laid[i]? = some (name, Lib.tabData k zs))
    (hg : P.globalNamed name = some g) (hty : (P.globals[g]?).map (·.type) = some t) (ht : P.underlying t = some (.array n e)) (he : P.underlying e = some (.int k)) (hce : P.cellsOf e = 1) (hct : P.cellsOf t = n)
    (h : laidMet P laid W) : Lib.TabIs P W name k zs := by
  obtain ⟨ps, hv, _⟩ := h
  obtain ⟨q, rest, hx⟩ := laidVars_at hv i _ hi
  obtain ⟨g', t', cs, fuel, p, q', hg', ht', hvar, hd, _, _⟩ := hx
  obtain rfl := Option.some.inj (hg.symm.trans hg')
  obtain rfl := Option.some.inj (hty.symm.trans ht')
  unfold Lib.TabIs
  rw [hvar, ← Lib.cells_of_tab ht he hce hct hd]
/-- The cells of a laid table of integers. -/
def tabCells : DataW Unit → Array Value
  | .agg l => (l.map fun d => match d with | .lit (.int k z) => Value.int k z | _ => Value.nilIface).toArray
  | _ => #[]
def layAt (h : Array Obj) (g : Nat) (cs : Array Value) : Array Obj := h.modify g fun o => match o with | .cells _ t f => .cells cs t f | o => o
end Go.Proofs.YtmaifldiondchaaDoor
