/- The table of powers of ten is as the row lists it. -/
import Derived.Test.YtmhckcghfikeiaaDoorLaid
import Derived.Test.YtmhckcghfikeiaaDoorTabl
import Derived.Test.YtmhckcghfikeiaaDoorRows
import Derived.Test.YtmhckcghfikeiaaDoorRows27
namespace Go.Proofs.YtmhckcghfikeiaaDoor
theorem tabOf {W : World} (h : laidMetH Tryd.prog Rows.auditTextsRow.laid W) : Tab W :=
  tabIs_at (laid := Rows.auditTextsRow.laid) (t := 86) (e := 74) 2 rfl gTab (by kernel_rfl) Tryd.underlying86 Tryd.underlying74 (by kernel_rfl) (by kernel_rfl) h
open Go.RowKit Go.ChangeShapes Go.WideShapes Go.Deep in
theorem open_rows_len {H : Type} {enc : TypeId × Value → H} {w : World} {base : Nat} {held : Bool} {fuel : Nat} {A : Option Addr} {len cap : Nat} {x : DataW H × List MemPlace} (h : DataW.trod enc Tryd.prog w base (fun _ => true) held fuel 22 [.slice A len cap] = some x) : len ≤ 9223372036854775807 := by
  rcases open_slice Tryd.underlying22 h with ⟨h0, _⟩ | ⟨a, len', cap', m, n, D, Pl, hcs, hb, hl, hm, hmm, _, hi⟩
  · simp only [List.cons.injEq, Value.slice.injEq, and_true] at h0
    omega
  · simp only [List.cons.injEq, Value.slice.injEq, and_true] at hcs
    unfold maxLen at hm
    omega
end Go.Proofs.YtmhckcghfikeiaaDoor
