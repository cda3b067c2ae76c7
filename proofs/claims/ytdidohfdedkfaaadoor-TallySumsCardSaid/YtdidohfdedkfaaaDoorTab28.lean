/- The table of powers of ten is as the row lists it. -/
import Derived.Test.YtdidohfdedkfaaaDoorLaid
import Derived.Test.YtdidohfdedkfaaaDoorItoa
import Derived.Test.YtdidohfdedkfaaaDoorRows
namespace Go.Proofs.YtdidohfdedkfaaaDoor
theorem tabOf {W : World} (h : laidMetH Tryd.prog Rows.tallyPartsRow.laid W) : Tab W :=
  tabIs_at (laid := Rows.tallyPartsRow.laid) (t := 81) (e := 74) 2 rfl gTab (by kernel_rfl) Tryd.underlying81 Tryd.underlying74 (by kernel_rfl) (by kernel_rfl) h
end Go.Proofs.YtdidohfdedkfaaaDoor
