/- the table that the number printer reads. -/
import Derived.Test.YtmaifldiondchaaDoorDecimal
import Derived.Test.YtmaifldiondchaaDoorShelf
import Derived.WalkSmall
namespace Go.Proofs.YtmaifldiondchaaDoor
open Go.RowKit

def Tab (w : World) : Prop := Lib.TabIs Tryd.prog w "internal/strconv.uint64pow10" .u64 Lib.pow10Tab
theorem gTab : Tryd.prog.globalNamed "internal/strconv.uint64pow10" = some 1 := by kernel_rfl
theorem Tab.below {w w' : World} (h : Tab w) (hb : Below w.heap.size w w') : Tab w' := by
  refine var?_below hb gTab ?_ h
  have hv := h
  unfold Tab Lib.TabIs World.var? at hv
  simp only [gTab, Option.bind_some] at hv
  rcases Nat.lt_or_ge 1 w.heap.size with hlt | hge
  · exact hlt
  · rw [Array.getElem?_eq_none hge] at hv; cases hv
theorem below_grow {w : World} (d : Nat) (os : Array Obj) : Below w.heap.size w (Sort.grow (w.drewN d) os) :=
  ⟨rfl, rfl, rfl, by simp [Sort.grow], fun k hk => by
    show ((w.drewN d).heap ++ os)[k]? = _
    rw [Array.getElem?_append_left (show k < (w.drewN d).heap.size from hk)]; rfl⟩
end Go.Proofs.YtmaifldiondchaaDoor
