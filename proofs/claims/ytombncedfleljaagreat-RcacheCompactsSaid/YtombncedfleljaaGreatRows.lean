/-
  No cell of these rows narrows 'for every input' (looked for: loops, veiled, ifaces, maps, wideKeys, modest, calm, conditions, laid).
  DERIVED. THE GIVEN ROWS OF THIS SEAT. 3 by the template 'for every input the law returns true; each argument reads behind the call as it read before'; 0 by the template 'total and deterministic' (their statements: YtombncedfleljaaGreatTotals.lean).
  GIVEN WITH THE SEED: the statements are not yours to turn. If you find one false, say at which input.
  Laid BY PROGRAM, IN A SANDBOX (cutbox-rows.mjs): the forced cells as the released guide's own fill.sh prints them over the translation 6a80586d2c4087d9… (all of the seat's roots in one cut). By AI agents, Wed Nov 11 2026. No macro, syntax, notation, axiom, sorry.
-/
import Derived.Test.YtombncedfleljaaGreatChecked
import GoSem.Claim
import GoSem.ClaimJoined
import GoSem.ClaimMapViews
import Derived.JoinedTies
import Derived.KernelRfl
namespace Go.Proofs.YtombncedfleljaaGreat
/- THE CELL 'sum', in the pinned program and in every row, IS THE sha256 OF THE DUMP (.gsa) THAT YtombncedfleljaaGreatProg.lean LOADS. Nothing in Lean hashes anything: it is a label: what it is worth is what the hold of that sum in a sandbox is worth. -/
noncomputable def Tryz.pinned : Pinned := { name := "ytombncedfleljaagreat", sum := "6a80586d2c4087d9167087a76fc3fa1a3d3865a9007370bf92ab825804a613c9", checked := Tryz.checked }
namespace Rows
def none {H : Type} : Left H := { results := [], args := [] }

/-- 'tolllaw21.RcacheKeeps': WHATEVER THE INPUT: true; the input reads as it did. -/
def rcacheKeepsSpec : ChangeSpec := { name := "rcacheKeeps", fn := fun _ => fun
  | [d1, d2] => { results := [.lit (.bool true)], args := [d1, d2] }
  | _ => none }
def rcacheKeepsRow : OpenClaim := { program := "ytombncedfleljaagreat", sum := "6a80586d2c4087d9167087a76fc3fa1a3d3865a9007370bf92ab825804a613c9", func := "toll/tolllaw21.RcacheKeeps", spec := "rcacheKeeps", inPlace := ["internal/bytealg.Compare"], unfollowed := true, recurses := true, plainKeys := false, apart := false }
def RcacheKeepsSaid : Prop := rcacheKeepsRow.holds Tryz.pinned (OpenSpec.ofChange rcacheKeepsSpec)

/-- ITS FALSE NEIGHBOUR: 'it returns false'. Refute it at one input. -/
def rcacheKeepsWrong : ChangeSpec := { name := "rcacheKeeps", fn := fun _ => fun
  | [d1, d2] => { results := [.lit (.bool false)], args := [d1, d2] }
  | _ => none }
def RcacheKeepsWrongFalsely : Prop := rcacheKeepsRow.holds Tryz.pinned (OpenSpec.ofChange rcacheKeepsWrong)

/-- 'tolllaw21.RcacheCompacts': WHATEVER THE INPUT: true; the input reads as it did. -/
def rcacheCompactsSpec : ChangeSpec := { name := "rcacheCompacts", fn := fun _ => fun
  | [d1, d2, d3] => { results := [.lit (.bool true)], args := [d1, d2, d3] }
  | _ => none }
def rcacheCompactsRow : OpenClaim := { program := "ytombncedfleljaagreat", sum := "6a80586d2c4087d9167087a76fc3fa1a3d3865a9007370bf92ab825804a613c9", func := "toll/tolllaw21.RcacheCompacts", spec := "rcacheCompacts", inPlace := ["internal/bytealg.Compare"], unfollowed := true, recurses := true, plainKeys := false, apart := false }
def RcacheCompactsSaid : Prop := rcacheCompactsRow.holds Tryz.pinned (OpenSpec.ofChange rcacheCompactsSpec)

/-- ITS FALSE NEIGHBOUR: 'it returns false'. Refute it at one input. -/
def rcacheCompactsWrong : ChangeSpec := { name := "rcacheCompacts", fn := fun _ => fun
  | [d1, d2, d3] => { results := [.lit (.bool false)], args := [d1, d2, d3] }
  | _ => none }
def RcacheCompactsWrongFalsely : Prop := rcacheCompactsRow.holds Tryz.pinned (OpenSpec.ofChange rcacheCompactsWrong)

/-- 'tolllaw21.RcacheBroken': WHATEVER THE INPUT: true; the input reads as it did. -/
def rcacheBrokenSpec : ChangeSpec := { name := "rcacheBroken", fn := fun _ => fun
  | [d1, d2, d3] => { results := [.lit (.bool true)], args := [d1, d2, d3] }
  | _ => none }
def rcacheBrokenRow : OpenClaim := { program := "ytombncedfleljaagreat", sum := "6a80586d2c4087d9167087a76fc3fa1a3d3865a9007370bf92ab825804a613c9", func := "toll/tolllaw21.RcacheBroken", spec := "rcacheBroken", inPlace := ["internal/bytealg.Compare"], unfollowed := true, recurses := true, plainKeys := false, apart := false }
def RcacheBrokenSaid : Prop := rcacheBrokenRow.holds Tryz.pinned (OpenSpec.ofChange rcacheBrokenSpec)

/-- ITS FALSE NEIGHBOUR: 'it returns false'. Refute it at one input. -/
def rcacheBrokenWrong : ChangeSpec := { name := "rcacheBroken", fn := fun _ => fun
  | [d1, d2, d3] => { results := [.lit (.bool false)], args := [d1, d2, d3] }
  | _ => none }
def RcacheBrokenWrongFalsely : Prop := rcacheBrokenRow.holds Tryz.pinned (OpenSpec.ofChange rcacheBrokenWrong)

/- THE SECOND FORM. 'bulk': how many values and letters a reading holds, each counted each time it is reached (what is shared counts as often as it is met; a slice's spare places count too). A statement '..UptoSaid' is the law's where the arguments, and the package variables that the reading takes, are together of bulk at most 1048576: NARROWER than '..Said'. Prove '..Said' where nothing that the law and all that it calls make is longer than what came in: it says more and counts as full. Else prove '..UptoSaid'. A law counts once. -/
mutual
def uptoBulk {H : Type} : DataW H → Nat
  | .lit (.string bytes) => bytes.length + 1
  | .lit _ => 1
  | .nil => 1
  | .ptr d => uptoBulk d + 1
  | .slice elems spare => uptoBulkAll elems + uptoBulkAll spare + 1
  | .agg parts => uptoBulkAll parts + 1
  | .iface _ d => uptoBulk d + 1
  | .map entries => uptoBulkEntries entries + 1
  | .held _ => 1
def uptoBulkAll {H : Type} : List (DataW H) → Nat
  | [] => 0
  | d :: r => uptoBulk d + uptoBulkAll r
def uptoBulkEntries {H : Type} : List (Lit × DataW H) → Nat
  | [] => 0
  | x :: r => uptoBulkEntry x + uptoBulkEntries r
def uptoBulkEntry {H : Type} : Lit × DataW H → Nat
  | (.string bytes, d) => bytes.length + uptoBulk d + 1
  | (_, d) => uptoBulk d + 1
 end
def uptoSmall : (H : Type) → List (DataW H) → Bool := fun _ ds => decide (uptoBulkAll ds ≤ 1048576)
def OpenSpec.upto (s : _root_.Go.ChangeSpec) : _root_.Go.OpenSpec := { _root_.Go.OpenSpec.ofChange s with cond := some uptoSmall }

/-- 'tolllaw21.RcacheKeeps', WHERE WHAT IT READS IS OF BULK AT MOST 1048576: true; the input reads as it did. -/
def rcacheKeepsUptoRow : OpenClaim := { program := "ytombncedfleljaagreat", sum := "6a80586d2c4087d9167087a76fc3fa1a3d3865a9007370bf92ab825804a613c9", func := "toll/tolllaw21.RcacheKeeps", spec := "rcacheKeeps", inPlace := ["internal/bytealg.Compare"], unfollowed := true, recurses := true, plainKeys := false, apart := false, narrowed := true }
def RcacheKeepsUptoSaid : Prop := rcacheKeepsUptoRow.holds Tryz.pinned (OpenSpec.upto rcacheKeepsSpec)

/-- 'tolllaw21.RcacheCompacts', WHERE WHAT IT READS IS OF BULK AT MOST 1048576: true; the input reads as it did. -/
def rcacheCompactsUptoRow : OpenClaim := { program := "ytombncedfleljaagreat", sum := "6a80586d2c4087d9167087a76fc3fa1a3d3865a9007370bf92ab825804a613c9", func := "toll/tolllaw21.RcacheCompacts", spec := "rcacheCompacts", inPlace := ["internal/bytealg.Compare"], unfollowed := true, recurses := true, plainKeys := false, apart := false, narrowed := true }
def RcacheCompactsUptoSaid : Prop := rcacheCompactsUptoRow.holds Tryz.pinned (OpenSpec.upto rcacheCompactsSpec)

/-- 'tolllaw21.RcacheBroken', WHERE WHAT IT READS IS OF BULK AT MOST 1048576: true; the input reads as it did. -/
def rcacheBrokenUptoRow : OpenClaim := { program := "ytombncedfleljaagreat", sum := "6a80586d2c4087d9167087a76fc3fa1a3d3865a9007370bf92ab825804a613c9", func := "toll/tolllaw21.RcacheBroken", spec := "rcacheBroken", inPlace := ["internal/bytealg.Compare"], unfollowed := true, recurses := true, plainKeys := false, apart := false, narrowed := true }
def RcacheBrokenUptoSaid : Prop := rcacheBrokenUptoRow.holds Tryz.pinned (OpenSpec.upto rcacheBrokenSpec)

end Rows
end Go.Proofs.YtombncedfleljaaGreat
