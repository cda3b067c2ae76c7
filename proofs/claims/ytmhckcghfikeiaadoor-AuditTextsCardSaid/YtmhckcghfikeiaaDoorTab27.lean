/- The table of powers of ten is as the row lists it. -/
import Derived.Test.YtmhckcghfikeiaaDoorLaid
import Derived.Test.YtmhckcghfikeiaaDoorTabl
import Derived.Test.YtmhckcghfikeiaaDoorRows
namespace Go.Proofs.YtmhckcghfikeiaaDoor
theorem tabOf {W : World} (h : laidMetH Tryd.prog Rows.auditTextsRow.laid W) : Tab W :=
  tabIs_at (laid := Rows.auditTextsRow.laid) (t := 86) (e := 74) 2 rfl gTab (by kernel_rfl) Tryd.underlying86 Tryd.underlying74 (by kernel_rfl) (by kernel_rfl) h
end Go.Proofs.YtmhckcghfikeiaaDoor
