/- audit.views (the maker), audit.rules, audit.findings (the maker). -/
import Derived.Test.YtmhckcghfikeiaaDoorViews
namespace Go.Proofs.YtmhckcghfikeiaaDoor
open Go.RowKit
attribute [local irreducible] wpQuiet wpAnyH
set_option linter.unusedSimpArgs false

/-- Two boxes that a closure over (skew, l) has captured. -/
structure Cap2 (w : World) (g1 g2 : Nat) (skew : Int) (A : Option Addr) (n cap : Nat) : Prop where
  b1 : Blk w g1 2 #[.int .i64 skew]
  b2 : Blk w g2 27 #[.slice A n cap]
set_option maxRecDepth 100000 in
theorem views_any (skew : Int) (A : Option Addr) (n cap : Nat) (w : World) :
    Calls Tryd.prog 25 #[.int .i64 skew, .slice A n cap] w fun e w' => ∃ g1 g2, e = .returned (.func (.func 32) #[] #[.pointer (some ⟨g1, 0, none⟩), .pointer (some ⟨g2, 0, none⟩)]) ∧ Cap2 w' g1 g2 skew A n cap ∧ Below w.heap.size w w' ∧ w.heap.size ≤ g1 ∧ w.heap.size ≤ g2 := by
  go_enter Tryd.func25, Tryd.ntmps25
  go_wp2_with fail
  go_ret
  refine ⟨w.heap.size, w.heap.size + 1, rfl, ⟨(Blk.new _ _ _).alloc _, Blk.newAt _ _ _ _ (by simp)⟩, (bel1 w _).alloc (by simp) _, by omega, by omega⟩
set_option maxRecDepth 100000 in
theorem findings_any (skew : Int) (A : Option Addr) (n cap : Nat) (w : World) :
    Calls Tryd.prog 19 #[.int .i64 skew, .slice A n cap] w fun e w' => ∃ g1 g2, e = .returned (.func (.func 24) #[] #[.pointer (some ⟨g1, 0, none⟩), .pointer (some ⟨g2, 0, none⟩)]) ∧ Cap2 w' g1 g2 skew A n cap ∧ Below w.heap.size w w' ∧ w.heap.size ≤ g1 ∧ w.heap.size ≤ g2 := by
  go_enter Tryd.func19, Tryd.ntmps19
  go_wp2_with fail
  go_ret
  refine ⟨w.heap.size, w.heap.size + 1, rfl, ⟨(Blk.new _ _ _).alloc _, Blk.newAt _ _ _ _ (by simp)⟩, (bel1 w _).alloc (by simp) _, by omega, by omega⟩
def ruleV (k : Nat) : List Value := [.string (ruleN k), .func (.func (ruleF k)) #[] #[]]
def rulesC : List Value := ruleV 0 ++ ruleV 1 ++ ruleV 2 ++ ruleV 3 ++ ruleV 4
set_option maxRecDepth 100000 in
theorem rules_any (w : World) :
    Calls Tryd.prog 23 #[] w fun e w' => e = .returned (.slice (some ⟨w.heap.size, 0, none⟩) 5 5) ∧ Blk w' w.heap.size 64 rulesC.toArray ∧ Below w.heap.size w w' ∧ w'.heap.size = w.heap.size + 1 := by
  go_enter Tryd.func23, Tryd.ntmps23
  go_wp2_with fail
  go_ret
  refine ⟨rfl, Blk.new _ _ _, bel1 w _, by simp⟩
end Go.Proofs.YtmhckcghfikeiaaDoor
