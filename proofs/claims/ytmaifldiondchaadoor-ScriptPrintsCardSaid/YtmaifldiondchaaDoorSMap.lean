/- Maps from strings to values: what they hold, as a function. -/
import Derived.Test.YtmaifldiondchaaDoorBlk
import Derived.Test.YtmaifldiondchaaDoorScr0
import Derived.StringKeys
import Derived.Maps.OwnSet
import Derived.Maps.OwnOps
namespace Go.Proofs.YtmaifldiondchaaDoor
open Go.RowKit

def SB (l : Bs) : ByteArray := ⟨l.toArray⟩
theorem SB_size (l : Bs) : (SB l).size = l.length := by simp [SB, ByteArray.size]
theorem SB_list (l : Bs) : (SB l).data.toList = l := by simp [SB]
def SOk (l : Bs) : Prop := l.length ≤ maxLen
def sv (l : Bs) : Value := .string (SB l)
def sk (l : Bs) : Lit := .string l
theorem keyedS : Maps.Keyed Tryd.prog 9 := Maps.Keyed.of_law (WideMaps.string_law Tryd.underlying9)
theorem keyOf_mkS {d : Bs} (h : SOk d) : keyOf Tryd.prog 9 (sv d) = some (sk d) := by
  have := WideMaps.keyOf_string_mk (P := Tryd.prog) Tryd.underlying9 (s := SB d) (by rw [SB_size]; exact h)
  rw [SB_list] at this
  exact this
theorem sk_inj {d d' : Bs} (e : sk d = sk d') : d = d' := by
  unfold sk at e
  exact Lit.string.inj e
theorem sk_key (d : Bs) : WideAt.IsKeyLit (sk d) := trivial

def RV : Value → Option (DataW Value × List MemPlace) := fun v => some (.held v, [])
def SFits (D : DataW Value) (f : Bs → Option Value) : Prop := ∀ k, SOk k → match f k with
  | none => Maps.has D (sk k) = false
  | some v => Maps.has D (sk k) = true ∧ ∀ z, D.atKey (sk k) z = .held v
/-- Block b is a map of at most n ints that holds f. -/
def SM (w : World) (b n : Nat) (f : Bs → Option Value) : Prop := ∃ D, w.ownsMap Tryd.prog 9 RV b n D ∧ SFits D f
def sput (f : Bs → Option Value) (k : Bs) (v : Value) : Bs → Option Value := fun x => if x = k then some v else f x

theorem SM.lt {w : World} {b n : Nat} {f : Bs → Option Value} (h : SM w b n f) : b < w.heap.size := by
  obtain ⟨D, h, _⟩ := h
  exact h.lt
theorem SM.of_block {w w' : World} {b n : Nat} {f : Bs → Option Value} (h : SM w b n f) (e : w'.heap[b]? = w.heap[b]?) : SM w' b n f := by
  obtain ⟨D, ⟨es, clock, hb, r⟩, hf⟩ := h
  exact ⟨D, ⟨es, clock, e.trans hb, r⟩, hf⟩
theorem SM.keep {w w' : World} {b n : Nat} {f : Bs → Option Value} (h : SM w b n f) (hb : Below w.heap.size w w') : SM w' b n f := h.of_block (hb.block b h.lt)
theorem SM.mono {w : World} {b n m : Nat} {f : Bs → Option Value} (h : SM w b n f) (hm : n ≤ m) : SM w b m f := by
  obtain ⟨D, h, hf⟩ := h
  exact ⟨D, h.mono hm, hf⟩
theorem SM.made (w : World) : SM (w.alloc (.map #[] 0)) w.heap.size 0 (fun _ => none) :=
  ⟨.map [], World.ownsMap_made _ _ _ _, fun _ _ => rfl⟩
theorem SM.madeAt (w : World) (b : Nat) (hb : w.heap.size = b) : SM (w.alloc (.map #[] 0)) b 0 (fun _ => none) := by
  subst hb; exact SM.made w
theorem SM.congr {w : World} {b n : Nat} {f f' : Bs → Option Value} (h : SM w b n f) (e : ∀ k, SOk k → f k = f' k) : SM w b n f' := by
  obtain ⟨D, h, hf⟩ := h
  exact ⟨D, h, fun k hk => by rw [← e k hk]; exact hf k hk⟩
theorem SFits.has {D : DataW Value} {f : Bs → Option Value} (h : SFits D f) {k : Bs} (hk : SOk k) : Maps.has D (sk k) = (f k).isSome := by
  have := h k hk
  cases hf : f k with
  | none => rw [hf] at this; exact this
  | some v => rw [hf] at this; exact this.1
theorem SFits.at {D : DataW Value} {f : Bs → Option Value} (h : SFits D f) {k : Bs} (hk : SOk k) (z : Value) : D.atKey (sk k) (.held z) = .held ((f k).getD z) := by
  have := h k hk
  cases hf : f k with
  | none => rw [hf] at this; exact Maps.atKey_of_not_has this _
  | some v => rw [hf] at this; exact this.2 _

section
variable {w : World} {b n : Nat} {f : Bs → Option Value} {tM e : TypeId} (ht : Tryd.prog.underlying tM = some (.map 9 e))
include ht
theorem SM.look (h : SM w b n f) {z : Value} (hz : (zeroValue e).run Tryd.prog w = .ok z w) {k : Bs} (hk : SOk k) :
    (Instr.lookup tM (.map (some b)) (sv k) true).run Tryd.prog w = .ok (.tuple #[(f k).getD z, .bool (f k).isSome]) w := by
  obtain ⟨D, hown, hf⟩ := h
  obtain ⟨v, ps, hrun, hv⟩ := hown.look_ok keyedS ht hz (zd := .held z) (zp := []) rfl (keyOf_mkS hk)
  rw [hf.has hk] at hrun
  rw [hf.at hk] at hv
  have hv := congrArg (fun o : Option (DataW Value × List MemPlace) => match o with | some (.held x, _) => x | _ => undef) hv
  dsimp only [RV] at hv
  subst hv
  exact hrun
theorem SM.look1 (h : SM w b n f) {z : Value} (hz : (zeroValue e).run Tryd.prog w = .ok z w) {k : Bs} (hk : SOk k) :
    (Instr.lookup tM (.map (some b)) (sv k) false).run Tryd.prog w = .ok ((f k).getD z) w := by
  obtain ⟨D, hown, hf⟩ := h
  obtain ⟨v, ps, hrun, hv⟩ := hown.lookup keyedS ht hz (zd := .held z) (zp := []) rfl (keyOf_mkS hk)
  rw [hf.at hk] at hv
  have hv := congrArg (fun o : Option (DataW Value × List MemPlace) => match o with | some (.held x, _) => x | _ => undef) hv
  dsimp only [RV] at hv
  subst hv
  exact hrun
theorem SM.put_run (h : SM w b n f) {k : Bs} (hk : SOk k) (v : Value) (hn : n < maxLen) :
    ∃ w', (Instr.mapUpdate tM (.map (some b)) (sv k) v).run Tryd.prog w = .ok () w' ∧ SM w' b (n + 1) (sput f k v) ∧ w.mapTurned w' b := by
  obtain ⟨D, hown, hf⟩ := h
  obtain ⟨w', hrun, h', hg'⟩ := hown.store keyedS ht hn (keyOf_mkS hk) (val := v) (d := .held v) (ps := []) rfl
  refine ⟨w', hrun, ⟨_, h', fun x hx => ?_⟩, hg'⟩
  unfold sput
  by_cases hxk : x = k
  · subst hxk
    rw [if_pos rfl]
    exact ⟨Maps.has_put_same hown.isMap (sk_key x) _, fun z => Maps.atKey_put_same hown.isMap (sk_key x) _ z⟩
  · rw [if_neg hxk]
    have hne : sk x ≠ sk k := fun e => hxk (sk_inj e)
    have := hf x hx
    cases hfx : f x with
    | none => rw [hfx] at this; exact (Maps.has_put_other hne _).trans this
    | some t' =>
      rw [hfx] at this
      exact ⟨(Maps.has_put_other hne _).trans this.1, fun z => (Maps.atKey_put_other hne _ z).trans (this.2 z)⟩
theorem sPut {ops : Array Oper} {rest : List Oper} {o : Oper} {a : Act} {Q : Exit → Act → World → Prop} (m x v : Operand) (hop : o.op = Op.mapUpdate tM m x v) (hw : Region.wanted o (yielded ops a.tmps) = true) (hm : a.eval m = .map (some b)) (h : SM w b n f) {k : Bs} (hk : SOk k) (hx : a.eval x = .string (SB k))
    {val : Value} (hv : a.eval v = val) (hn : n < maxLen)
    (hK : ∀ w', SM w' b (n + 1) (sput f k val) → w.mapTurned w' b → wpList Tryd.prog ops Q rest (a.put o.dst undef) w') : wpList Tryd.prog ops Q (o :: rest) a w := by
  obtain ⟨w', hrun, h1, h2⟩ := h.put_run ht hk val hn
  unfold sv at hrun
  refine wpList_step fun K hK' => ?_
  rw [if_pos hw]
  unfold Oper.wp execOp
  simp only [hop, hm, hx, hv, Sem.run_bind, hrun, Result.andThen_ok, Sem.run_pure]
  exact hK' _ _ (hK w' h1 h2)
end
end Go.Proofs.YtmaifldiondchaaDoor
