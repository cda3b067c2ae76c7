/- The tables as the row lists them; the library's own length; an operation that came in. -/
import Derived.Test.YtmaifldiondchaaDoorLaid
import Derived.Test.YtmaifldiondchaaDoorTabl
import Derived.Test.YtmaifldiondchaaDoorRows
import Derived.Test.YtmaifldiondchaaDoorElems
import Derived.Test.YtmaifldiondchaaDoorPrint
import Derived.Test.YtmaifldiondchaaDoorBy
import Derived.ChangeSlices
namespace Go.Proofs.YtmaifldiondchaaDoor
theorem tabOf {W : World} (h : laidMetH Tryd.prog Rows.scriptSameRow.laid W) : Tab W :=
  tabIs_at (laid := Rows.scriptSameRow.laid) (t := 104) (e := 92) 2 rfl gTab (by kernel_rfl) Tryd.underlying104 Tryd.underlying92 (by kernel_rfl) (by kernel_rfl) h
theorem mlOf {W : World} (h : W.ShapedOpen Tryd.prog) : ML W := Tryd.laysM145.s1_3 W h
open Go.RowKit Go.ChangeShapes Go.WideShapes Go.Deep
section
variable {H : Type} {enc : TypeId × Value → H} {w : World} {base : Nat} {held : Bool} {spare : Nat → Bool}
theorem sn_ints {P : Program} {t e : TypeId} {k : IntKind} {fuel : Nat} {cs : List Value} {x : DataW H × List MemPlace} (ht : P.underlying t = some (.slice e)) (he : P.underlying e = some (.int k)) (hc : P.cellsOf e = 1)
    (h : DataW.trod enc P w base spare held fuel t cs = some x) :
    ∃ (A : Option Addr) (cap : Nat) (zs : List Int), cs = [.slice A zs.length cap] ∧ Sn w 1 (.slice A zs.length cap) zs.length (zs.map (Value.int k)) ∧ zs.length ≤ 9223372036854775807 ∧ ∀ n ∈ zs, (Lit.int k n).wf = true := by
  rcases open_ints ht he hc h with ⟨rfl, _⟩ | ⟨a, len, cap, zs, rfl, hb, hl, hm, hlen, _, hcell, hwf⟩
  · exact ⟨none, 0, [], rfl, ⟨none, 0, rfl, Nat.le_refl _, by simp, fun h => absurd h (by simp)⟩, by simp, fun n hn => by cases hn⟩
  · have hlz : len ≤ zs.length := by rw [hlen]; split <;> omega
    have ht' : (zs.take len).length = len := by simp; omega
    refine ⟨some a, cap, zs.take len, by rw [ht'], ?_, by rw [ht']; unfold maxLen at hm; omega, fun n hn => hwf n (List.mem_of_mem_take hn)⟩
    rw [ht']
    refine ⟨some a, cap, rfl, hl, by simp; omega, fun hp => ?_⟩
    obtain ⟨b, off, spot⟩ := a
    have hspot : spot = none := by simpa [Addr.add] using World.cell?_spot (hcell 0 (by omega))
    subst hspot
    refine ⟨b, off, rfl, fun j u hj => ?_⟩
    rw [List.getElem?_map, Option.map_eq_some_iff] at hj
    obtain ⟨n, hn, rfl⟩ := hj
    have hjl : j < len := by
      have := (List.getElem?_eq_some_iff.1 hn).1
      rw [ht'] at this; exact this
    rw [List.getElem?_take_of_lt hjl] at hn
    have := hcell j (by omega)
    rw [List.getD_eq_getElem?_getD, hn] at this
    by_cases hj0 : j = 0
    · subst hj0; simpa [Addr.add] using this
    · simpa [Addr.add, hj0] using this
/-- A row of bytes. -/
theorem u8_list : ∀ (zs : List Int), (∀ n ∈ zs, (Lit.int .u8 n).wf = true) → ∃ d : Bs, d.length = zs.length ∧ Lib.byteCells d = zs.map (Value.int .u8)
  | [], _ => ⟨[], rfl, rfl⟩
  | n :: zs, h => by
    obtain ⟨d, hd, he⟩ := u8_list zs (fun m hm => h m (by simp [hm]))
    have hn := h n (by simp)
    simp [Lit.wf, IntKind.min, IntKind.max, IntKind.signed, IntKind.bits] at hn
    refine ⟨UInt8.ofNat n.toNat :: d, by simp [hd], ?_⟩
    have : ((UInt8.ofNat n.toNat).toNat : Int) = n := by simp; omega
    unfold Lib.byteCells at he ⊢
    rw [List.map_cons, List.map_cons, he, this]
/-- What is known of an operation that came in. -/
structure OpJ (w : World) (x : OpR) : Prop where
  i : OpI w x
  kind : isI64 x.o.kind
  n : isI64 x.o.n
  dm : x.o.data.length ≤ 9223372036854775807
  cm : x.o.cuts.length ≤ 9223372036854775807
  c64 : ∀ c ∈ x.o.cuts, isI64 c
theorem op_cells {fuel : Nat} {cs : List Value} {x : DataW H × List MemPlace} (h : DataW.trod enc Tryd.prog w base spare held fuel 26 cs = some x) : ∃ r : OpR, OpJ w r ∧ cs = opC r := by
  obtain ⟨xs, n, _, _, hl, hx, hf⟩ := DataW.trod_struct Tryd.underlying26 h
  have hC : Tryd.prog.cellsOf 26 = 4 := by kernel_rfl
  rw [hC] at hl
  have hx2 : xs.length = 4 := hx
  have g : ∀ i, i < 4 → xs[i]? = some (xs[i]?.getD (.nil, [])) := fun i hi => by simp [List.getElem?_eq_getElem (show i < xs.length by omega)]
  have f0 := (hf 0 _ rfl).trans (g 0 (by omega))
  have f1 := (hf 1 _ rfl).trans (g 1 (by omega))
  have f2 := (hf 2 _ rfl).trans (g 2 (by omega))
  have f3 := (hf 3 _ rfl).trans (g 3 (by omega))
  obtain ⟨k0, h0, _, w0⟩ := DataW.trod_int Tryd.underlying3 f0
  obtain ⟨k1, h1, _, w1⟩ := DataW.trod_int Tryd.underlying2 f1
  obtain ⟨A, ca, z, h2, s2, m2, w2⟩ := sn_ints Tryd.underlying23 Tryd.underlying5 (by kernel_rfl) f2
  obtain ⟨B, cb, c, h3, s3, m3, w3⟩ := sn_ints Tryd.underlying24 Tryd.underlying3 (by kernel_rfl) f3
  obtain ⟨d, hd, hdc⟩ := u8_list z w2
  rw [← hdc, ← hd] at s2
  rw [← hd] at h2 m2
  have c0 : Tryd.prog.cellsOf 3 = 1 := by kernel_rfl
  have c1 : Tryd.prog.cellsOf 2 = 1 := by kernel_rfl
  have c2 : Tryd.prog.cellsOf 23 = 1 := by kernel_rfl
  have c3 : Tryd.prog.cellsOf 24 = 1 := by kernel_rfl
  replace h0 : (cs.drop 0).take (Tryd.prog.cellsOf 3) = [.int .i64 k0] := h0
  replace h1 : (cs.drop 1).take (Tryd.prog.cellsOf 2) = [.int .i64 k1] := h1
  replace h2 : (cs.drop 2).take (Tryd.prog.cellsOf 23) = [.slice A d.length ca] := h2
  replace h3 : (cs.drop 3).take (Tryd.prog.cellsOf 24) = [.slice B c.length cb] := h3
  rw [c0] at h0
  rw [c1] at h1
  rw [c2] at h2
  rw [c3] at h3
  refine ⟨⟨⟨k0, k1, d, c⟩, A, ca, B, cb⟩, ⟨⟨s2, s3⟩, isI64_of w0, isI64_of w1, m2, m3, fun n hn => isI64_of (w3 n hn)⟩, ?_⟩
  clear f0 f1 f2 f3 hf hx hx2 g m2 m3 s2 s3 w0 w1 w2 w3 c0 c1 c2 c3 hC h
  match cs, hl with
  | [v0, v1, v2, v3], _ =>
    simp at h0 h1 h2 h3
    subst h0 h1 h2 h3
    rfl
set_option linter.constructorNameAsVariable false in
set_option maxRecDepth 10000 in
theorem open_op {v : Value} {r : Reach} {b0 : Nat} {x : DataW H} {ps : List MemPlace} (hv : Value.okWide Tryd.prog w r b0 26 v) (h : DataW.Trod enc Tryd.prog w base spare held 26 v x ps) : ∃ p : OpR, OpJ w p ∧ v = .agg (opC p).toArray := by
  simp only [Value.okWide, Tryd.underlying26] at hv
  obtain ⟨cs, rfl, _⟩ := hv
  obtain ⟨fuel, hf⟩ := h
  obtain ⟨p, hp, he⟩ := op_cells hf
  refine ⟨p, hp, ?_⟩
  have he : cs.toList = opC p := he
  rw [← he]
theorem open_ops {fuel : Nat} {A : Option Addr} {len cap : Nat} {x : DataW H × List MemPlace} (h : DataW.trod enc Tryd.prog w base (fun _ => true) held fuel 32 [.slice A len cap] = some x) :
    ∃ l : List OpR, l.length = len ∧ (∀ r ∈ l, OpJ w r) ∧ Sn w 4 (.slice A len cap) len (l.flatMap opC) :=
  open_elems opC (OpJ w) 4 (by decide) (fun _ _ => rfl) Tryd.underlying32 (by kernel_rfl) (fun _ _ _ h => op_cells h) h
theorem open_ops_len {fuel : Nat} {A : Option Addr} {len cap : Nat} {x : DataW H × List MemPlace} (h : DataW.trod enc Tryd.prog w base (fun _ => true) held fuel 32 [.slice A len cap] = some x) : len ≤ 9223372036854775807 := by
  rcases open_slice Tryd.underlying32 h with ⟨h0, _⟩ | ⟨a, len', cap', m, n, D, Pl, hcs, hb, hl, hm, hmm, _, hi⟩
  · simp only [List.cons.injEq, Value.slice.injEq, and_true] at h0
    omega
  · simp only [List.cons.injEq, Value.slice.injEq, and_true] at hcs
    unfold maxLen at hm
    omega
end
end Go.Proofs.YtmaifldiondchaaDoor
