/-
  No cell of these rows narrows 'for every input' (looked for: loops, veiled, ifaces, maps, wideKeys, modest, calm, conditions, laid).
  DERIVED. THE GIVEN ROWS OF THIS SEAT. 5 by the template 'for every input the law returns true; each argument reads behind the call as it read before'; 0 by the template 'total and deterministic' (their statements: YtlhehnghplchfaaTotals.lean).
  GIVEN WITH THE SEED: the statements are not yours to turn. If you find one false, say at which input.
  Laid BY PROGRAM, IN A SANDBOX (cutbox-rows.mjs): the forced cells as the released guide's own fill.sh prints them over the translation 6ed0ca272790a356… (all of the seat's roots in one cut). By AI agents, Wed Nov 11 2026. No macro, syntax, notation, axiom, sorry.
-/
import Derived.Test.YtlhehnghplchfaaChecked
import GoSem.Claim
import GoSem.ClaimJoined
import GoSem.ClaimMapViews
import Derived.JoinedTies
import Derived.KernelRfl
namespace Go.Proofs.Ytlhehnghplchfaa
/- THE CELL 'sum', in the pinned program and in every row, IS THE sha256 OF THE DUMP (.gsa) THAT YtlhehnghplchfaaProg.lean LOADS. Nothing in Lean hashes anything: it is a label: what it is worth is what the hold of that sum in a sandbox is worth. -/
noncomputable def Try.pinned : Pinned := { name := "ytlhehnghplchfaa", sum := "6ed0ca272790a356518adcc2a15edbcacd5e74acc7df1b52c483474c95719a95", checked := Try.checked }
namespace Rows
def none {H : Type} : Left H := { results := [], args := [] }

/-- 'tolllaw20.IndexLive': WHATEVER THE INPUT: true; the input reads as it did. -/
def indexLiveSpec : ChangeSpec := { name := "indexLive", fn := fun _ => fun
  | [d1, d2, d3] => { results := [.lit (.bool true)], args := [d1, d2, d3] }
  | _ => none }
def indexLiveRow : OpenClaim := { program := "ytlhehnghplchfaa", sum := "6ed0ca272790a356518adcc2a15edbcacd5e74acc7df1b52c483474c95719a95", func := "toll/tolllaw20.IndexLive", spec := "indexLive", inPlace := ["internal/bytealg.Compare"], unfollowed := true, recurses := true, plainKeys := false, apart := false }
def IndexLiveSaid : Prop := indexLiveRow.holds Try.pinned (OpenSpec.ofChange indexLiveSpec)

/-- ITS FALSE NEIGHBOUR: 'it returns false'. Refute it at one input. -/
def indexLiveWrong : ChangeSpec := { name := "indexLive", fn := fun _ => fun
  | [d1, d2, d3] => { results := [.lit (.bool false)], args := [d1, d2, d3] }
  | _ => none }
def IndexLiveWrongFalsely : Prop := indexLiveRow.holds Try.pinned (OpenSpec.ofChange indexLiveWrong)

/-- 'tolllaw20.IndexOrder': WHATEVER THE INPUT: true; the input reads as it did. -/
def indexOrderSpec : ChangeSpec := { name := "indexOrder", fn := fun _ => fun
  | [d1, d2] => { results := [.lit (.bool true)], args := [d1, d2] }
  | _ => none }
def indexOrderRow : OpenClaim := { program := "ytlhehnghplchfaa", sum := "6ed0ca272790a356518adcc2a15edbcacd5e74acc7df1b52c483474c95719a95", func := "toll/tolllaw20.IndexOrder", spec := "indexOrder", inPlace := ["internal/bytealg.Compare"], unfollowed := true, recurses := true, plainKeys := false, apart := false }
def IndexOrderSaid : Prop := indexOrderRow.holds Try.pinned (OpenSpec.ofChange indexOrderSpec)

/-- ITS FALSE NEIGHBOUR: 'it returns false'. Refute it at one input. -/
def indexOrderWrong : ChangeSpec := { name := "indexOrder", fn := fun _ => fun
  | [d1, d2] => { results := [.lit (.bool false)], args := [d1, d2] }
  | _ => none }
def IndexOrderWrongFalsely : Prop := indexOrderRow.holds Try.pinned (OpenSpec.ofChange indexOrderWrong)

/-- 'tolllaw20.IndexCompares': WHATEVER THE INPUT: true; the input reads as it did. -/
def indexComparesSpec : ChangeSpec := { name := "indexCompares", fn := fun _ => fun
  | [d1, d2, d3] => { results := [.lit (.bool true)], args := [d1, d2, d3] }
  | _ => none }
def indexComparesRow : OpenClaim := { program := "ytlhehnghplchfaa", sum := "6ed0ca272790a356518adcc2a15edbcacd5e74acc7df1b52c483474c95719a95", func := "toll/tolllaw20.IndexCompares", spec := "indexCompares", inPlace := ["internal/bytealg.Compare"], unfollowed := true, recurses := true, plainKeys := false, apart := false }
def IndexComparesSaid : Prop := indexComparesRow.holds Try.pinned (OpenSpec.ofChange indexComparesSpec)

/-- ITS FALSE NEIGHBOUR: 'it returns false'. Refute it at one input. -/
def indexComparesWrong : ChangeSpec := { name := "indexCompares", fn := fun _ => fun
  | [d1, d2, d3] => { results := [.lit (.bool false)], args := [d1, d2, d3] }
  | _ => none }
def IndexComparesWrongFalsely : Prop := indexComparesRow.holds Try.pinned (OpenSpec.ofChange indexComparesWrong)

/-- 'tolllaw20.IndexDrops': WHATEVER THE INPUT: true; the input reads as it did. -/
def indexDropsSpec : ChangeSpec := { name := "indexDrops", fn := fun _ => fun
  | [d1, d2, d3] => { results := [.lit (.bool true)], args := [d1, d2, d3] }
  | _ => none }
def indexDropsRow : OpenClaim := { program := "ytlhehnghplchfaa", sum := "6ed0ca272790a356518adcc2a15edbcacd5e74acc7df1b52c483474c95719a95", func := "toll/tolllaw20.IndexDrops", spec := "indexDrops", inPlace := ["internal/bytealg.Compare"], unfollowed := true, recurses := true, plainKeys := false, apart := false }
def IndexDropsSaid : Prop := indexDropsRow.holds Try.pinned (OpenSpec.ofChange indexDropsSpec)

/-- ITS FALSE NEIGHBOUR: 'it returns false'. Refute it at one input. -/
def indexDropsWrong : ChangeSpec := { name := "indexDrops", fn := fun _ => fun
  | [d1, d2, d3] => { results := [.lit (.bool false)], args := [d1, d2, d3] }
  | _ => none }
def IndexDropsWrongFalsely : Prop := indexDropsRow.holds Try.pinned (OpenSpec.ofChange indexDropsWrong)

/-- 'tolllaw20.IndexMatchesReference': WHATEVER THE INPUT: true; the input reads as it did. -/
def indexMatchesReferenceSpec : ChangeSpec := { name := "indexMatchesReference", fn := fun _ => fun
  | [d] => { results := [.lit (.bool true)], args := [d] }
  | _ => none }
def indexMatchesReferenceRow : OpenClaim := { program := "ytlhehnghplchfaa", sum := "6ed0ca272790a356518adcc2a15edbcacd5e74acc7df1b52c483474c95719a95", func := "toll/tolllaw20.IndexMatchesReference", spec := "indexMatchesReference", inPlace := ["internal/bytealg.Compare"], unfollowed := true, recurses := true, plainKeys := false, apart := false }
def IndexMatchesReferenceSaid : Prop := indexMatchesReferenceRow.holds Try.pinned (OpenSpec.ofChange indexMatchesReferenceSpec)

/-- ITS FALSE NEIGHBOUR: 'it returns false'. Refute it at one input. -/
def indexMatchesReferenceWrong : ChangeSpec := { name := "indexMatchesReference", fn := fun _ => fun
  | [d] => { results := [.lit (.bool false)], args := [d] }
  | _ => none }
def IndexMatchesReferenceWrongFalsely : Prop := indexMatchesReferenceRow.holds Try.pinned (OpenSpec.ofChange indexMatchesReferenceWrong)

/- THE SECOND FORM. 'bulk': how many values and letters a reading holds, each counted each time it is reached (what is shared counts as often as it is met; a slice's spare places count too). A statement '..UptoSaid' is the law's where the arguments, and the package variables that the reading takes, are together of bulk at most 1048576: NARROWER than '..Said'. Prove '..Said' where nothing that the law and all that it calls make is longer than what came in: it says more and counts as full. Else prove '..UptoSaid'. A law counts once. -/
mutual
def uptoBulk {H : Type} : DataW H → Nat
  | .lit (.string bytes) => bytes.length + 1
  | .lit _ => 1
  | .nil => 1
  | .ptr d => uptoBulk d + 1
  | .slice elems spare => uptoBulkAll elems + uptoBulkAll spare + 1
  | .agg parts => uptoBulkAll parts + 1
  | .iface _ d => uptoBulk d + 1
  | .map entries => uptoBulkEntries entries + 1
  | .held _ => 1
def uptoBulkAll {H : Type} : List (DataW H) → Nat
  | [] => 0
  | d :: r => uptoBulk d + uptoBulkAll r
def uptoBulkEntries {H : Type} : List (Lit × DataW H) → Nat
  | [] => 0
  | x :: r => uptoBulkEntry x + uptoBulkEntries r
def uptoBulkEntry {H : Type} : Lit × DataW H → Nat
  | (.string bytes, d) => bytes.length + uptoBulk d + 1
  | (_, d) => uptoBulk d + 1
 end
def uptoSmall : (H : Type) → List (DataW H) → Bool := fun _ ds => decide (uptoBulkAll ds ≤ 1048576)
def OpenSpec.upto (s : _root_.Go.ChangeSpec) : _root_.Go.OpenSpec := { _root_.Go.OpenSpec.ofChange s with cond := some uptoSmall }

/-- 'tolllaw20.IndexLive', WHERE WHAT IT READS IS OF BULK AT MOST 1048576: true; the input reads as it did. -/
def indexLiveUptoRow : OpenClaim := { program := "ytlhehnghplchfaa", sum := "6ed0ca272790a356518adcc2a15edbcacd5e74acc7df1b52c483474c95719a95", func := "toll/tolllaw20.IndexLive", spec := "indexLive", inPlace := ["internal/bytealg.Compare"], unfollowed := true, recurses := true, plainKeys := false, apart := false, narrowed := true }
def IndexLiveUptoSaid : Prop := indexLiveUptoRow.holds Try.pinned (OpenSpec.upto indexLiveSpec)

/-- 'tolllaw20.IndexOrder', WHERE WHAT IT READS IS OF BULK AT MOST 1048576: true; the input reads as it did. -/
def indexOrderUptoRow : OpenClaim := { program := "ytlhehnghplchfaa", sum := "6ed0ca272790a356518adcc2a15edbcacd5e74acc7df1b52c483474c95719a95", func := "toll/tolllaw20.IndexOrder", spec := "indexOrder", inPlace := ["internal/bytealg.Compare"], unfollowed := true, recurses := true, plainKeys := false, apart := false, narrowed := true }
def IndexOrderUptoSaid : Prop := indexOrderUptoRow.holds Try.pinned (OpenSpec.upto indexOrderSpec)

/-- 'tolllaw20.IndexCompares', WHERE WHAT IT READS IS OF BULK AT MOST 1048576: true; the input reads as it did. -/
def indexComparesUptoRow : OpenClaim := { program := "ytlhehnghplchfaa", sum := "6ed0ca272790a356518adcc2a15edbcacd5e74acc7df1b52c483474c95719a95", func := "toll/tolllaw20.IndexCompares", spec := "indexCompares", inPlace := ["internal/bytealg.Compare"], unfollowed := true, recurses := true, plainKeys := false, apart := false, narrowed := true }
def IndexComparesUptoSaid : Prop := indexComparesUptoRow.holds Try.pinned (OpenSpec.upto indexComparesSpec)

/-- 'tolllaw20.IndexDrops', WHERE WHAT IT READS IS OF BULK AT MOST 1048576: true; the input reads as it did. -/
def indexDropsUptoRow : OpenClaim := { program := "ytlhehnghplchfaa", sum := "6ed0ca272790a356518adcc2a15edbcacd5e74acc7df1b52c483474c95719a95", func := "toll/tolllaw20.IndexDrops", spec := "indexDrops", inPlace := ["internal/bytealg.Compare"], unfollowed := true, recurses := true, plainKeys := false, apart := false, narrowed := true }
def IndexDropsUptoSaid : Prop := indexDropsUptoRow.holds Try.pinned (OpenSpec.upto indexDropsSpec)

/-- 'tolllaw20.IndexMatchesReference', WHERE WHAT IT READS IS OF BULK AT MOST 1048576: true; the input reads as it did. -/
def indexMatchesReferenceUptoRow : OpenClaim := { program := "ytlhehnghplchfaa", sum := "6ed0ca272790a356518adcc2a15edbcacd5e74acc7df1b52c483474c95719a95", func := "toll/tolllaw20.IndexMatchesReference", spec := "indexMatchesReference", inPlace := ["internal/bytealg.Compare"], unfollowed := true, recurses := true, plainKeys := false, apart := false, narrowed := true }
def IndexMatchesReferenceUptoSaid : Prop := indexMatchesReferenceUptoRow.holds Try.pinned (OpenSpec.upto indexMatchesReferenceSpec)

end Rows
end Go.Proofs.Ytlhehnghplchfaa
