/- Maps from digests to values of whatever type: what they hold, as a function. -/
import Derived.Test.YtmhckcghfikeiaaDoorBlk
import Derived.Test.YtmhckcghfikeiaaDoorDig
namespace Go.Proofs.YtmhckcghfikeiaaDoor
open Go.RowKit

def RV : Value → Option (DataW Value × List MemPlace) := fun v => some (.held v, [])
def VFits (D : DataW Value) (f : List Int → Option Value) : Prop := ∀ k, DigOk k → match f k with
  | none => Maps.has D (dk k) = false
  | some v => Maps.has D (dk k) = true ∧ ∀ z, D.atKey (dk k) z = .held v
/-- Block b is a map of at most n ints that holds f. -/
def VM (w : World) (b n : Nat) (f : List Int → Option Value) : Prop := ∃ D, w.ownsMap Tryd.prog 47 RV b n D ∧ VFits D f
def vput (f : List Int → Option Value) (k : List Int) (v : Value) : List Int → Option Value := fun x => if x = k then some v else f x
def vdel (f : List Int → Option Value) (k : List Int) : List Int → Option Value := fun x => if x = k then none else f x

theorem VM.lt {w : World} {b n : Nat} {f : List Int → Option Value} (h : VM w b n f) : b < w.heap.size := by
  obtain ⟨D, h, _⟩ := h
  exact h.lt
theorem VM.of_block {w w' : World} {b n : Nat} {f : List Int → Option Value} (h : VM w b n f) (e : w'.heap[b]? = w.heap[b]?) : VM w' b n f := by
  obtain ⟨D, ⟨es, clock, hb, r⟩, hf⟩ := h
  exact ⟨D, ⟨es, clock, e.trans hb, r⟩, hf⟩
theorem VM.keep {w w' : World} {b n : Nat} {f : List Int → Option Value} (h : VM w b n f) (hb : Below w.heap.size w w') : VM w' b n f := h.of_block (hb.block b h.lt)
theorem VM.mono {w : World} {b n m : Nat} {f : List Int → Option Value} (h : VM w b n f) (hm : n ≤ m) : VM w b m f := by
  obtain ⟨D, h, hf⟩ := h
  exact ⟨D, h.mono hm, hf⟩
theorem VM.made (w : World) : VM (w.alloc (.map #[] 0)) w.heap.size 0 (fun _ => none) :=
  ⟨.map [], World.ownsMap_made _ _ _ _, fun _ _ => rfl⟩
theorem VM.madeAt (w : World) (b : Nat) (hb : w.heap.size = b) : VM (w.alloc (.map #[] 0)) b 0 (fun _ => none) := by
  subst hb; exact VM.made w
theorem VM.congr {w : World} {b n : Nat} {f f' : List Int → Option Value} (h : VM w b n f) (e : ∀ k, DigOk k → f k = f' k) : VM w b n f' := by
  obtain ⟨D, h, hf⟩ := h
  exact ⟨D, h, fun k hk => by rw [← e k hk]; exact hf k hk⟩
theorem VFits.has {D : DataW Value} {f : List Int → Option Value} (h : VFits D f) {k : List Int} (hk : DigOk k) : Maps.has D (dk k) = (f k).isSome := by
  have := h k hk
  cases hf : f k with
  | none => rw [hf] at this; exact this
  | some v => rw [hf] at this; exact this.1
theorem VFits.at {D : DataW Value} {f : List Int → Option Value} (h : VFits D f) {k : List Int} (hk : DigOk k) (z : Value) : D.atKey (dk k) (.held z) = .held ((f k).getD z) := by
  have := h k hk
  cases hf : f k with
  | none => rw [hf] at this; exact Maps.atKey_of_not_has this _
  | some v => rw [hf] at this; exact this.2 _

section
variable {w : World} {b n : Nat} {f : List Int → Option Value} {tM e : TypeId} (ht : Tryd.prog.underlying tM = some (.map 47 e))
include ht
theorem VM.look (h : VM w b n f) {z : Value} (hz : (zeroValue e).run Tryd.prog w = .ok z w) {k : List Int} (hk : DigOk k) :
    (Instr.lookup tM (.map (some b)) (dv k) true).run Tryd.prog w = .ok (.tuple #[(f k).getD z, .bool (f k).isSome]) w := by
  obtain ⟨D, hown, hf⟩ := h
  obtain ⟨v, ps, hrun, hv⟩ := hown.look_ok keyed ht hz (zd := .held z) (zp := []) rfl (keyOf_mk hk)
  rw [hf.has hk] at hrun
  rw [hf.at hk] at hv
  have hv := congrArg (fun o : Option (DataW Value × List MemPlace) => match o with | some (.held x, _) => x | _ => undef) hv
  dsimp only [RV] at hv
  subst hv
  exact hrun
theorem VM.look1 (h : VM w b n f) {z : Value} (hz : (zeroValue e).run Tryd.prog w = .ok z w) {k : List Int} (hk : DigOk k) :
    (Instr.lookup tM (.map (some b)) (dv k) false).run Tryd.prog w = .ok ((f k).getD z) w := by
  obtain ⟨D, hown, hf⟩ := h
  obtain ⟨v, ps, hrun, hv⟩ := hown.lookup keyed ht hz (zd := .held z) (zp := []) rfl (keyOf_mk hk)
  rw [hf.at hk] at hv
  have hv := congrArg (fun o : Option (DataW Value × List MemPlace) => match o with | some (.held x, _) => x | _ => undef) hv
  dsimp only [RV] at hv
  subst hv
  exact hrun
theorem VM.put_run (h : VM w b n f) {k : List Int} (hk : DigOk k) (v : Value) (hn : n < maxLen) :
    ∃ w', (Instr.mapUpdate tM (.map (some b)) (dv k) v).run Tryd.prog w = .ok () w' ∧ VM w' b (n + 1) (vput f k v) ∧ w.mapTurned w' b := by
  obtain ⟨D, hown, hf⟩ := h
  obtain ⟨w', hrun, h', hg'⟩ := hown.store keyed ht hn (keyOf_mk hk) (val := v) (d := .held v) (ps := []) rfl
  refine ⟨w', hrun, ⟨_, h', fun x hx => ?_⟩, hg'⟩
  unfold vput
  by_cases hxk : x = k
  · subst hxk
    rw [if_pos rfl]
    exact ⟨Maps.has_put_same hown.isMap (dk_key x) _, fun z => Maps.atKey_put_same hown.isMap (dk_key x) _ z⟩
  · rw [if_neg hxk]
    have hne : dk x ≠ dk k := fun e => hxk (dk_inj hx hk e)
    have := hf x hx
    cases hfx : f x with
    | none => rw [hfx] at this; exact (Maps.has_put_other hne _).trans this
    | some t' =>
      rw [hfx] at this
      exact ⟨(Maps.has_put_other hne _).trans this.1, fun z => (Maps.atKey_put_other hne _ z).trans (this.2 z)⟩
theorem VM.del_run (h : VM w b n f) {k : List Int} (hk : DigOk k) (ty : TypeId) :
    ∃ w', (Builtin.delete_ #[tM, 47] ty #[.map (some b), dv k]).run Tryd.prog w = .ok (.tuple #[]) w' ∧ VM w' b n (vdel f k) ∧ w.mapTurned w' b := by
  obtain ⟨D, hown, hf⟩ := h
  obtain ⟨w', hrun, h', hg'⟩ := hown.drop keyed ht (keyOf_mk hk) ty
  refine ⟨w', hrun, ⟨_, h', fun x hx => ?_⟩, hg'⟩
  unfold vdel
  by_cases hxk : x = k
  · subst hxk
    rw [if_pos rfl]
    exact Maps.has_del_same
  · rw [if_neg hxk]
    have hne : dk x ≠ dk k := fun e => hxk (dk_inj hx hk e)
    have := hf x hx
    cases hfx : f x with
    | none => rw [hfx] at this; exact (Maps.has_del_other hne).trans this
    | some t' =>
      rw [hfx] at this
      exact ⟨(Maps.has_del_other hne).trans this.1, fun z => (Maps.atKey_del_other hne z).trans (this.2 z)⟩
theorem VM.clear_run (h : VM w b n f) (ty : TypeId) :
    ∃ w', (Builtin.clear_ #[tM] ty #[.map (some b)]).run Tryd.prog w = .ok (.tuple #[]) w' ∧ VM w' b n (fun _ => none) ∧ w.mapTurned w' b := by
  obtain ⟨D, ⟨es, clock, hb, F, hs, hD⟩, hf⟩ := h
  refine ⟨ChangeMaps.setBlock w b (.map #[] clock), ?_, ⟨.map [], ⟨#[], clock, ?_, ?_, Nat.zero_le _, rfl⟩, fun _ _ => rfl⟩, ⟨es, clock, #[], clock, hb, rfl⟩⟩
  · simp [Builtin.clear_, run_underlying ht, MapKept.run_getObj_map hb, MapKept.run_setObj_map _ hb, Result.andThen]
    rfl
  · exact ChangeMaps.heap_setBlock_same hb _
  · exact ⟨Nat.zero_le _, by simp [MapKept.Stamped], fun x hx => by simp at hx⟩
theorem vPut {ops : Array Oper} {rest : List Oper} {o : Oper} {a : Act} {Q : Exit → Act → World → Prop} (m x v : Operand) (hop : o.op = Op.mapUpdate tM m x v) (hw : Region.wanted o (yielded ops a.tmps) = true) (hm : a.eval m = .map (some b)) (h : VM w b n f) {k : List Int} (hk : DigOk k) (hx : a.eval x = .agg (u8s k).toArray)
    {val : Value} (hv : a.eval v = val) (hn : n < maxLen)
    (hK : ∀ w', VM w' b (n + 1) (vput f k val) → w.mapTurned w' b → wpList Tryd.prog ops Q rest (a.put o.dst undef) w') : wpList Tryd.prog ops Q (o :: rest) a w := by
  obtain ⟨w', hrun, h1, h2⟩ := h.put_run ht hk val hn
  unfold dv at hrun
  refine wpList_step fun K hK' => ?_
  rw [if_pos hw]
  unfold Oper.wp execOp
  simp only [hop, hm, hx, hv, Sem.run_bind, hrun, Result.andThen_ok, Sem.run_pure]
  exact hK' _ _ (hK w' h1 h2)
end
end Go.Proofs.YtmhckcghfikeiaaDoor
