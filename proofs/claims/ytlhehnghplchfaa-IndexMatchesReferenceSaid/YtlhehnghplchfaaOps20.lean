/- Operations on an index that came in. -/
import Derived.Test.YtlhehnghplchfaaDigest20
import Derived.Test.YtlhehnghplchfaaElems
namespace Go.Proofs.Ytlhehnghplchfaa
open Go.RowKit Go.ChangeShapes Go.WideShapes Go.Deep

structure OpD where
  kind : Int
  dig : Nat
  time : Int
def opC (o : OpD) : List Value := [.int .i64 o.kind, .int .u8 o.dig, .int .i64 o.time]
structure OpOk (o : OpD) : Prop where
  kind : isI64 o.kind
  dig : o.dig ≤ 255
  time : isI64 o.time
theorem opC_length (o : OpD) (_ : OpOk o) : (opC o).length = 3 := rfl
def entOf (o : OpD) : List Int × Int := (dg o.dig, o.time)
theorem entOf_ok {o : OpD} (h : OpOk o) : EntOk (entOf o) := ⟨dg_ok _ h.dig, h.time⟩
theorem op_elem {H : Type} {enc : TypeId × Value → H} {w : World} {base : Nat} {held : Bool} (fuel : Nat) (cs : List Value) (x : DataW H × List MemPlace) (h : DataW.trod enc Try.prog w base (fun _ => true) held fuel 29 cs = some x) : ∃ o, OpOk o ∧ cs = opC o := by
  obtain ⟨xs, n, _, _, hl, hx, hf⟩ := DataW.trod_struct Try.underlying29 h
  have hC : Try.prog.cellsOf 29 = 3 := by kernel_rfl
  rw [hC] at hl
  have hx3 : xs.length = 3 := hx
  have g : ∀ i, i < 3 → xs[i]? = some (xs[i]?.getD (.nil, [])) := fun i hi => by simp [List.getElem?_eq_getElem (show i < xs.length by omega)]
  have f0 := (hf 0 _ rfl).trans (g 0 (by omega))
  have f1 := (hf 1 _ rfl).trans (g 1 (by omega))
  have f2 := (hf 2 _ rfl).trans (g 2 (by omega))
  obtain ⟨k0, h0, _, w0⟩ := DataW.trod_int Try.underlying3 f0
  obtain ⟨k1, h1, _, w1⟩ := DataW.trod_int Try.underlying5 f1
  obtain ⟨k2, h2, _, w2⟩ := DataW.trod_int Try.underlying2 f2
  have c0 : Try.prog.cellsOf 3 = 1 := by kernel_rfl
  have c1 : Try.prog.cellsOf 5 = 1 := by kernel_rfl
  have c2 : Try.prog.cellsOf 2 = 1 := by kernel_rfl
  replace h0 : (cs.drop 0).take (Try.prog.cellsOf 3) = [.int .i64 k0] := h0
  replace h1 : (cs.drop 1).take (Try.prog.cellsOf 5) = [.int .u8 k1] := h1
  replace h2 : (cs.drop 2).take (Try.prog.cellsOf 2) = [.int .i64 k2] := h2
  rw [c0] at h0
  rw [c1] at h1
  rw [c2] at h2
  have hb := bounds_u8 w1
  obtain ⟨m, rfl⟩ : ∃ m : Nat, k1 = m := ⟨k1.toNat, by omega⟩
  refine ⟨⟨k0, m, k2⟩, ⟨isI64_of w0, by show m ≤ 255; omega, isI64_of w2⟩, ?_⟩
  match cs, hl with
  | [v0, v1, v2], _ =>
    simp at h0 h1 h2
    subst h0 h1 h2
    rfl
theorem open_ops {H : Type} {enc : TypeId × Value → H} {w : World} {base : Nat} {held : Bool} {fuel : Nat} {A : Option Addr} {len cap : Nat} {x : DataW H × List MemPlace} (h : DataW.trod enc Try.prog w base (fun _ => true) held fuel 22 [.slice A len cap] = some x) :
    ∃ l : List OpD, l.length = len ∧ (∀ r ∈ l, OpOk r) ∧ Sn w 3 (.slice A len cap) len (l.flatMap opC) :=
  open_elems opC OpOk 3 (by decide) opC_length Try.underlying22 (by kernel_rfl) op_elem h
end Go.Proofs.Ytlhehnghplchfaa
