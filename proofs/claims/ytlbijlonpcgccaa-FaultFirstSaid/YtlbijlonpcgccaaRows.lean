/-
  No cell of these rows narrows 'for every input' (looked for: loops, veiled, ifaces, maps, wideKeys, modest, calm, conditions, laid).
  DERIVED. THE GIVEN ROWS OF THIS SEAT. 5 by the template 'for every input the law returns true; each argument reads behind the call as it read before'; 0 by the template 'total and deterministic' (their statements: YtlbijlonpcgccaaTotals.lean).
  GIVEN WITH THE SEED: the statements are not yours to turn. If you find one false, say at which input.
  Laid BY PROGRAM, IN A SANDBOX (cutbox-rows.mjs): the forced cells as the released guide's own fill.sh prints them over the translation 58d38e330ad8a1cc… (all of the seat's roots in one cut). By AI agents, Wed Nov 11 2026. No macro, syntax, notation, axiom, sorry.
-/
import Derived.Test.YtlbijlonpcgccaaChecked
import GoSem.Claim
import GoSem.ClaimJoined
import GoSem.ClaimMapViews
import Derived.JoinedTies
import Derived.KernelRfl
namespace Go.Proofs.Ytlbijlonpcgccaa
/- THE CELL 'sum', in the pinned program and in every row, IS THE sha256 OF THE DUMP (.gsa) THAT YtlbijlonpcgccaaProg.lean LOADS. Nothing in Lean hashes anything: it is a label: what it is worth is what the hold of that sum in a sandbox is worth. -/
noncomputable def Try.pinned : Pinned := { name := "ytlbijlonpcgccaa", sum := "58d38e330ad8a1cccfb31ca01116b33bfa01dbdb2f180b155707411ad78bffcf", checked := Try.checked }
namespace Rows
def none {H : Type} : Left H := { results := [], args := [] }

/-- 'tolllaw02.FaultFinds': WHATEVER THE INPUT: true; the input reads as it did. -/
def faultFindsSpec : ChangeSpec := { name := "faultFinds", fn := fun _ => fun
  | [d] => { results := [.lit (.bool true)], args := [d] }
  | _ => none }
def faultFindsRow : OpenClaim := { program := "ytlbijlonpcgccaa", sum := "58d38e330ad8a1cccfb31ca01116b33bfa01dbdb2f180b155707411ad78bffcf", func := "toll/tolllaw02.FaultFinds", spec := "faultFinds", unfollowed := true, recurses := true, apart := false }
def FaultFindsSaid : Prop := faultFindsRow.holds Try.pinned (OpenSpec.ofChange faultFindsSpec)

/-- ITS FALSE NEIGHBOUR: 'it returns false'. Refute it at one input. -/
def faultFindsWrong : ChangeSpec := { name := "faultFinds", fn := fun _ => fun
  | [d] => { results := [.lit (.bool false)], args := [d] }
  | _ => none }
def FaultFindsWrongFalsely : Prop := faultFindsRow.holds Try.pinned (OpenSpec.ofChange faultFindsWrong)

/-- 'tolllaw02.FaultNames': WHATEVER THE INPUT: true; the input reads as it did. -/
def faultNamesSpec : ChangeSpec := { name := "faultNames", fn := fun _ => fun
  | [d1, d2] => { results := [.lit (.bool true)], args := [d1, d2] }
  | _ => none }
def faultNamesRow : OpenClaim := { program := "ytlbijlonpcgccaa", sum := "58d38e330ad8a1cccfb31ca01116b33bfa01dbdb2f180b155707411ad78bffcf", func := "toll/tolllaw02.FaultNames", spec := "faultNames", unfollowed := true, recurses := true, apart := false }
def FaultNamesSaid : Prop := faultNamesRow.holds Try.pinned (OpenSpec.ofChange faultNamesSpec)

/-- ITS FALSE NEIGHBOUR: 'it returns false'. Refute it at one input. -/
def faultNamesWrong : ChangeSpec := { name := "faultNames", fn := fun _ => fun
  | [d1, d2] => { results := [.lit (.bool false)], args := [d1, d2] }
  | _ => none }
def FaultNamesWrongFalsely : Prop := faultNamesRow.holds Try.pinned (OpenSpec.ofChange faultNamesWrong)

/-- 'tolllaw02.FaultFirst': WHATEVER THE INPUT: true; the input reads as it did. -/
def faultFirstSpec : ChangeSpec := { name := "faultFirst", fn := fun _ => fun
  | [d1, d2] => { results := [.lit (.bool true)], args := [d1, d2] }
  | _ => none }
def faultFirstRow : OpenClaim := { program := "ytlbijlonpcgccaa", sum := "58d38e330ad8a1cccfb31ca01116b33bfa01dbdb2f180b155707411ad78bffcf", func := "toll/tolllaw02.FaultFirst", spec := "faultFirst", unfollowed := true, recurses := true, apart := false }
def FaultFirstSaid : Prop := faultFirstRow.holds Try.pinned (OpenSpec.ofChange faultFirstSpec)

/-- ITS FALSE NEIGHBOUR: 'it returns false'. Refute it at one input. -/
def faultFirstWrong : ChangeSpec := { name := "faultFirst", fn := fun _ => fun
  | [d1, d2] => { results := [.lit (.bool false)], args := [d1, d2] }
  | _ => none }
def FaultFirstWrongFalsely : Prop := faultFirstRow.holds Try.pinned (OpenSpec.ofChange faultFirstWrong)

/-- 'tolllaw02.FaultPlaces': WHATEVER THE INPUT: true; the input reads as it did. -/
def faultPlacesSpec : ChangeSpec := { name := "faultPlaces", fn := fun _ => fun
  | [d1, d2, d3] => { results := [.lit (.bool true)], args := [d1, d2, d3] }
  | _ => none }
def faultPlacesRow : OpenClaim := { program := "ytlbijlonpcgccaa", sum := "58d38e330ad8a1cccfb31ca01116b33bfa01dbdb2f180b155707411ad78bffcf", func := "toll/tolllaw02.FaultPlaces", spec := "faultPlaces", unfollowed := true, recurses := true, apart := false }
def FaultPlacesSaid : Prop := faultPlacesRow.holds Try.pinned (OpenSpec.ofChange faultPlacesSpec)

/-- ITS FALSE NEIGHBOUR: 'it returns false'. Refute it at one input. -/
def faultPlacesWrong : ChangeSpec := { name := "faultPlaces", fn := fun _ => fun
  | [d1, d2, d3] => { results := [.lit (.bool false)], args := [d1, d2, d3] }
  | _ => none }
def FaultPlacesWrongFalsely : Prop := faultPlacesRow.holds Try.pinned (OpenSpec.ofChange faultPlacesWrong)

/-- 'tolllaw02.FaultWraps': WHATEVER THE INPUT: true; the input reads as it did. -/
def faultWrapsSpec : ChangeSpec := { name := "faultWraps", fn := fun _ => fun
  | [d1, d2] => { results := [.lit (.bool true)], args := [d1, d2] }
  | _ => none }
def faultWrapsRow : OpenClaim := { program := "ytlbijlonpcgccaa", sum := "58d38e330ad8a1cccfb31ca01116b33bfa01dbdb2f180b155707411ad78bffcf", func := "toll/tolllaw02.FaultWraps", spec := "faultWraps", inPlace := ["internal/reflectlite.TypeOf"], unfollowed := true, recurses := true, apart := false }
def FaultWrapsSaid : Prop := faultWrapsRow.holds Try.pinned (OpenSpec.ofChange faultWrapsSpec)

/-- ITS FALSE NEIGHBOUR: 'it returns false'. Refute it at one input. -/
def faultWrapsWrong : ChangeSpec := { name := "faultWraps", fn := fun _ => fun
  | [d1, d2] => { results := [.lit (.bool false)], args := [d1, d2] }
  | _ => none }
def FaultWrapsWrongFalsely : Prop := faultWrapsRow.holds Try.pinned (OpenSpec.ofChange faultWrapsWrong)

/- THE SECOND FORM. 'bulk': how many values and letters a reading holds, each counted each time it is reached (what is shared counts as often as it is met; a slice's spare places count too). A statement '..UptoSaid' is the law's where the arguments, and the package variables that the reading takes, are together of bulk at most 1048576: NARROWER than '..Said'. Prove '..Said' where nothing that the law and all that it calls make is longer than what came in: it says more and counts as full. Else prove '..UptoSaid'. A law counts once. -/
mutual
def uptoBulk {H : Type} : DataW H → Nat
  | .lit (.string bytes) => bytes.length + 1
  | .lit _ => 1
  | .nil => 1
  | .ptr d => uptoBulk d + 1
  | .slice elems spare => uptoBulkAll elems + uptoBulkAll spare + 1
  | .agg parts => uptoBulkAll parts + 1
  | .iface _ d => uptoBulk d + 1
  | .map entries => uptoBulkEntries entries + 1
  | .held _ => 1
def uptoBulkAll {H : Type} : List (DataW H) → Nat
  | [] => 0
  | d :: r => uptoBulk d + uptoBulkAll r
def uptoBulkEntries {H : Type} : List (Lit × DataW H) → Nat
  | [] => 0
  | x :: r => uptoBulkEntry x + uptoBulkEntries r
def uptoBulkEntry {H : Type} : Lit × DataW H → Nat
  | (.string bytes, d) => bytes.length + uptoBulk d + 1
  | (_, d) => uptoBulk d + 1
 end
def uptoSmall : (H : Type) → List (DataW H) → Bool := fun _ ds => decide (uptoBulkAll ds ≤ 1048576)
def OpenSpec.upto (s : _root_.Go.ChangeSpec) : _root_.Go.OpenSpec := { _root_.Go.OpenSpec.ofChange s with cond := some uptoSmall }

/-- 'tolllaw02.FaultFinds', WHERE WHAT IT READS IS OF BULK AT MOST 1048576: true; the input reads as it did. -/
def faultFindsUptoRow : OpenClaim := { program := "ytlbijlonpcgccaa", sum := "58d38e330ad8a1cccfb31ca01116b33bfa01dbdb2f180b155707411ad78bffcf", func := "toll/tolllaw02.FaultFinds", spec := "faultFinds", unfollowed := true, recurses := true, apart := false, narrowed := true }
def FaultFindsUptoSaid : Prop := faultFindsUptoRow.holds Try.pinned (OpenSpec.upto faultFindsSpec)

/-- 'tolllaw02.FaultNames', WHERE WHAT IT READS IS OF BULK AT MOST 1048576: true; the input reads as it did. -/
def faultNamesUptoRow : OpenClaim := { program := "ytlbijlonpcgccaa", sum := "58d38e330ad8a1cccfb31ca01116b33bfa01dbdb2f180b155707411ad78bffcf", func := "toll/tolllaw02.FaultNames", spec := "faultNames", unfollowed := true, recurses := true, apart := false, narrowed := true }
def FaultNamesUptoSaid : Prop := faultNamesUptoRow.holds Try.pinned (OpenSpec.upto faultNamesSpec)

/-- 'tolllaw02.FaultFirst', WHERE WHAT IT READS IS OF BULK AT MOST 1048576: true; the input reads as it did. -/
def faultFirstUptoRow : OpenClaim := { program := "ytlbijlonpcgccaa", sum := "58d38e330ad8a1cccfb31ca01116b33bfa01dbdb2f180b155707411ad78bffcf", func := "toll/tolllaw02.FaultFirst", spec := "faultFirst", unfollowed := true, recurses := true, apart := false, narrowed := true }
def FaultFirstUptoSaid : Prop := faultFirstUptoRow.holds Try.pinned (OpenSpec.upto faultFirstSpec)

/-- 'tolllaw02.FaultPlaces', WHERE WHAT IT READS IS OF BULK AT MOST 1048576: true; the input reads as it did. -/
def faultPlacesUptoRow : OpenClaim := { program := "ytlbijlonpcgccaa", sum := "58d38e330ad8a1cccfb31ca01116b33bfa01dbdb2f180b155707411ad78bffcf", func := "toll/tolllaw02.FaultPlaces", spec := "faultPlaces", unfollowed := true, recurses := true, apart := false, narrowed := true }
def FaultPlacesUptoSaid : Prop := faultPlacesUptoRow.holds Try.pinned (OpenSpec.upto faultPlacesSpec)

/-- 'tolllaw02.FaultWraps', WHERE WHAT IT READS IS OF BULK AT MOST 1048576: true; the input reads as it did. -/
def faultWrapsUptoRow : OpenClaim := { program := "ytlbijlonpcgccaa", sum := "58d38e330ad8a1cccfb31ca01116b33bfa01dbdb2f180b155707411ad78bffcf", func := "toll/tolllaw02.FaultWraps", spec := "faultWraps", inPlace := ["internal/reflectlite.TypeOf"], unfollowed := true, recurses := true, apart := false, narrowed := true }
def FaultWrapsUptoSaid : Prop := faultWrapsUptoRow.holds Try.pinned (OpenSpec.upto faultWrapsSpec)

end Rows
end Go.Proofs.Ytlbijlonpcgccaa
