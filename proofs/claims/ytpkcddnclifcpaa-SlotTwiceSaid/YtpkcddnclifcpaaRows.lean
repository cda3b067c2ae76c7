/-
  No cell of these rows narrows 'for every input' (looked for: loops, veiled, ifaces, maps, wideKeys, modest, calm, conditions, laid).
  DERIVED. THE GIVEN ROWS OF THIS SEAT. 4 by the template 'for every input the law returns true; each argument reads behind the call as it read before'; 0 by the template 'total and deterministic' (their statements: YtpkcddnclifcpaaTotals.lean).
  GIVEN WITH THE SEED: the statements are not yours to turn. If you find one false, say at which input.
  Laid BY PROGRAM, IN A SANDBOX (cutbox-rows.mjs): the forced cells as the released guide's own fill.sh prints them over the translation 94f093a969bc8175… (all of the seat's roots in one cut). By AI agents, Wed Nov 11 2026. No macro, syntax, notation, axiom, sorry.
-/
import Derived.Test.YtpkcddnclifcpaaChecked
import GoSem.Claim
import GoSem.ClaimJoined
import GoSem.ClaimMapViews
import Derived.JoinedTies
import Derived.KernelRfl
namespace Go.Proofs.Ytpkcddnclifcpaa
/- THE CELL 'sum', in the pinned program and in every row, IS THE sha256 OF THE DUMP (.gsa) THAT YtpkcddnclifcpaaProg.lean LOADS. Nothing in Lean hashes anything: it is a label: what it is worth is what the hold of that sum in a sandbox is worth. -/
noncomputable def Try.pinned : Pinned := { name := "ytpkcddnclifcpaa", sum := "94f093a969bc81755cf72f6006632683da9afb60856e7fe7e704124397ef4916", checked := Try.checked }
namespace Rows
def none {H : Type} : Left H := { results := [], args := [] }

/-- 'tolllaw18.SlotLimits': WHATEVER THE INPUT: true; the input reads as it did. -/
def slotLimitsSpec : ChangeSpec := { name := "slotLimits", fn := fun _ => fun
  | [d1, d2, d3, d4, d5] => { results := [.lit (.bool true)], args := [d1, d2, d3, d4, d5] }
  | _ => none }
def slotLimitsRow : OpenClaim := { program := "ytpkcddnclifcpaa", sum := "94f093a969bc81755cf72f6006632683da9afb60856e7fe7e704124397ef4916", func := "toll/tolllaw18.SlotLimits", spec := "slotLimits", unfollowed := true, recurses := true, apart := false }
def SlotLimitsSaid : Prop := slotLimitsRow.holds Try.pinned (OpenSpec.ofChange slotLimitsSpec)

/-- ITS FALSE NEIGHBOUR: 'it returns false'. Refute it at one input. -/
def slotLimitsWrong : ChangeSpec := { name := "slotLimits", fn := fun _ => fun
  | [d1, d2, d3, d4, d5] => { results := [.lit (.bool false)], args := [d1, d2, d3, d4, d5] }
  | _ => none }
def SlotLimitsWrongFalsely : Prop := slotLimitsRow.holds Try.pinned (OpenSpec.ofChange slotLimitsWrong)

/-- 'tolllaw18.SlotTorn': WHATEVER THE INPUT: true; the input reads as it did. -/
def slotTornSpec : ChangeSpec := { name := "slotTorn", fn := fun _ => fun
  | [d1, d2, d3, d4] => { results := [.lit (.bool true)], args := [d1, d2, d3, d4] }
  | _ => none }
def slotTornRow : OpenClaim := { program := "ytpkcddnclifcpaa", sum := "94f093a969bc81755cf72f6006632683da9afb60856e7fe7e704124397ef4916", func := "toll/tolllaw18.SlotTorn", spec := "slotTorn", unfollowed := true, recurses := true, apart := false }
def SlotTornSaid : Prop := slotTornRow.holds Try.pinned (OpenSpec.ofChange slotTornSpec)

/-- ITS FALSE NEIGHBOUR: 'it returns false'. Refute it at one input. -/
def slotTornWrong : ChangeSpec := { name := "slotTorn", fn := fun _ => fun
  | [d1, d2, d3, d4] => { results := [.lit (.bool false)], args := [d1, d2, d3, d4] }
  | _ => none }
def SlotTornWrongFalsely : Prop := slotTornRow.holds Try.pinned (OpenSpec.ofChange slotTornWrong)

/-- 'tolllaw18.SlotFills': WHATEVER THE INPUT: true; the input reads as it did. -/
def slotFillsSpec : ChangeSpec := { name := "slotFills", fn := fun _ => fun
  | [d1, d2, d3, d4] => { results := [.lit (.bool true)], args := [d1, d2, d3, d4] }
  | _ => none }
def slotFillsRow : OpenClaim := { program := "ytpkcddnclifcpaa", sum := "94f093a969bc81755cf72f6006632683da9afb60856e7fe7e704124397ef4916", func := "toll/tolllaw18.SlotFills", spec := "slotFills", unfollowed := true, recurses := true, apart := false }
def SlotFillsSaid : Prop := slotFillsRow.holds Try.pinned (OpenSpec.ofChange slotFillsSpec)

/-- ITS FALSE NEIGHBOUR: 'it returns false'. Refute it at one input. -/
def slotFillsWrong : ChangeSpec := { name := "slotFills", fn := fun _ => fun
  | [d1, d2, d3, d4] => { results := [.lit (.bool false)], args := [d1, d2, d3, d4] }
  | _ => none }
def SlotFillsWrongFalsely : Prop := slotFillsRow.holds Try.pinned (OpenSpec.ofChange slotFillsWrong)

/-- 'tolllaw18.SlotTwice': WHATEVER THE INPUT: true; the input reads as it did. -/
def slotTwiceSpec : ChangeSpec := { name := "slotTwice", fn := fun _ => fun
  | [d] => { results := [.lit (.bool true)], args := [d] }
  | _ => none }
def slotTwiceRow : OpenClaim := { program := "ytpkcddnclifcpaa", sum := "94f093a969bc81755cf72f6006632683da9afb60856e7fe7e704124397ef4916", func := "toll/tolllaw18.SlotTwice", spec := "slotTwice", unfollowed := true, recurses := true, apart := false }
def SlotTwiceSaid : Prop := slotTwiceRow.holds Try.pinned (OpenSpec.ofChange slotTwiceSpec)

/-- ITS FALSE NEIGHBOUR: 'it returns false'. Refute it at one input. -/
def slotTwiceWrong : ChangeSpec := { name := "slotTwice", fn := fun _ => fun
  | [d] => { results := [.lit (.bool false)], args := [d] }
  | _ => none }
def SlotTwiceWrongFalsely : Prop := slotTwiceRow.holds Try.pinned (OpenSpec.ofChange slotTwiceWrong)

/- THE SECOND FORM. 'bulk': how many values and letters a reading holds, each counted each time it is reached (what is shared counts as often as it is met; a slice's spare places count too). A statement '..UptoSaid' is the law's where the arguments, and the package variables that the reading takes, are together of bulk at most 1048576: NARROWER than '..Said'. Prove '..Said' where nothing that the law and all that it calls make is longer than what came in: it says more and counts as full. Else prove '..UptoSaid'. A law counts once. -/
mutual
def uptoBulk {H : Type} : DataW H → Nat
  | .lit (.string bytes) => bytes.length + 1
  | .lit _ => 1
  | .nil => 1
  | .ptr d => uptoBulk d + 1
  | .slice elems spare => uptoBulkAll elems + uptoBulkAll spare + 1
  | .agg parts => uptoBulkAll parts + 1
  | .iface _ d => uptoBulk d + 1
  | .map entries => uptoBulkEntries entries + 1
  | .held _ => 1
def uptoBulkAll {H : Type} : List (DataW H) → Nat
  | [] => 0
  | d :: r => uptoBulk d + uptoBulkAll r
def uptoBulkEntries {H : Type} : List (Lit × DataW H) → Nat
  | [] => 0
  | x :: r => uptoBulkEntry x + uptoBulkEntries r
def uptoBulkEntry {H : Type} : Lit × DataW H → Nat
  | (.string bytes, d) => bytes.length + uptoBulk d + 1
  | (_, d) => uptoBulk d + 1
 end
def uptoSmall : (H : Type) → List (DataW H) → Bool := fun _ ds => decide (uptoBulkAll ds ≤ 1048576)
def OpenSpec.upto (s : _root_.Go.ChangeSpec) : _root_.Go.OpenSpec := { _root_.Go.OpenSpec.ofChange s with cond := some uptoSmall }

/-- 'tolllaw18.SlotLimits', WHERE WHAT IT READS IS OF BULK AT MOST 1048576: true; the input reads as it did. -/
def slotLimitsUptoRow : OpenClaim := { program := "ytpkcddnclifcpaa", sum := "94f093a969bc81755cf72f6006632683da9afb60856e7fe7e704124397ef4916", func := "toll/tolllaw18.SlotLimits", spec := "slotLimits", unfollowed := true, recurses := true, apart := false, narrowed := true }
def SlotLimitsUptoSaid : Prop := slotLimitsUptoRow.holds Try.pinned (OpenSpec.upto slotLimitsSpec)

/-- 'tolllaw18.SlotTorn', WHERE WHAT IT READS IS OF BULK AT MOST 1048576: true; the input reads as it did. -/
def slotTornUptoRow : OpenClaim := { program := "ytpkcddnclifcpaa", sum := "94f093a969bc81755cf72f6006632683da9afb60856e7fe7e704124397ef4916", func := "toll/tolllaw18.SlotTorn", spec := "slotTorn", unfollowed := true, recurses := true, apart := false, narrowed := true }
def SlotTornUptoSaid : Prop := slotTornUptoRow.holds Try.pinned (OpenSpec.upto slotTornSpec)

/-- 'tolllaw18.SlotFills', WHERE WHAT IT READS IS OF BULK AT MOST 1048576: true; the input reads as it did. -/
def slotFillsUptoRow : OpenClaim := { program := "ytpkcddnclifcpaa", sum := "94f093a969bc81755cf72f6006632683da9afb60856e7fe7e704124397ef4916", func := "toll/tolllaw18.SlotFills", spec := "slotFills", unfollowed := true, recurses := true, apart := false, narrowed := true }
def SlotFillsUptoSaid : Prop := slotFillsUptoRow.holds Try.pinned (OpenSpec.upto slotFillsSpec)

/-- 'tolllaw18.SlotTwice', WHERE WHAT IT READS IS OF BULK AT MOST 1048576: true; the input reads as it did. -/
def slotTwiceUptoRow : OpenClaim := { program := "ytpkcddnclifcpaa", sum := "94f093a969bc81755cf72f6006632683da9afb60856e7fe7e704124397ef4916", func := "toll/tolllaw18.SlotTwice", spec := "slotTwice", unfollowed := true, recurses := true, apart := false, narrowed := true }
def SlotTwiceUptoSaid : Prop := slotTwiceUptoRow.holds Try.pinned (OpenSpec.upto slotTwiceSpec)

end Rows
end Go.Proofs.Ytpkcddnclifcpaa
