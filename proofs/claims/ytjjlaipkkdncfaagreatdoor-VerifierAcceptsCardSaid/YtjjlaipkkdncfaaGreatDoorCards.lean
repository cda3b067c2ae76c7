/-
  DERIVED. GIVEN WITH THE SEED: THE CARDS: each row of YtjjlaipkkdncfaaGreatDoorRows.lean that lists a variable, with what it lists TIED to the program's text (the seventh form; the later family's looks); each row that meets fmt, with fmt's text TOLD by the authors' own Lean function (tested against real Go, not proved from fmt's source: count such statements apart). THE CARD IS WHAT COUNTS. Prove the row's statement (the work); the ties are given (YtjjlaipkkdncfaaGreatDoorTie.lean); close each card by the builder's one call (the guide's Derived/Test/ToyasCard.lean, 'card_holds'). Laid BY PROGRAM, IN A SANDBOX (cutbox-door.mjs). By AI agents, Wed Nov 11 2026. No macro, syntax, notation, axiom, sorry.
-/
import Derived.Test.YtjjlaipkkdncfaaGreatDoorRows
import GoSem.ClaimSeven
namespace Go.Proofs.YtjjlaipkkdncfaaGreatDoor
namespace Rows

/-- THE TIED CARD OF 'tolllaw26.ModelAdds'. -/
def modelAddsCard : Claim7 := { stood := { row := modelAddsRow, standIns := [], harness := (true, "b764356f7329798ed1030e2a80fd1f5f3a0a46fa25e34f3882e1ad9034d178f0"), looks := true }, kinds := [], alts := [], laidByText := true, laidKinds := [.data, .data, .data, .data], laidTests := true, laidLooks := .later }
def ModelAddsCardSaid : Prop := Claim7.holds Tryz.pinned (.plain (OpenSpec.ofChange modelAddsSpec)) modelAddsCard

/-- THE TIED CARD OF 'tolllaw23.VerifierAccepts'. -/
def verifierAcceptsCard : Claim7 := { stood := { row := verifierAcceptsRow, standIns := [], harness := (true, "b764356f7329798ed1030e2a80fd1f5f3a0a46fa25e34f3882e1ad9034d178f0"), looks := true }, kinds := [], alts := [], laidByText := true, laidKinds := [.data], laidTests := true, laidLooks := .later }
def VerifierAcceptsCardSaid : Prop := Claim7.holds Tryz.pinned (.plain (OpenSpec.ofChange verifierAcceptsSpec)) verifierAcceptsCard

/-- THE SECOND FORM's CARD OF 'tolllaw26.ModelAdds'. -/
def modelAddsUptoCard : Claim7 := { stood := { row := modelAddsUptoRow, standIns := [], harness := (true, "b764356f7329798ed1030e2a80fd1f5f3a0a46fa25e34f3882e1ad9034d178f0"), looks := true }, kinds := [], alts := [], laidByText := true, laidKinds := [.data, .data, .data, .data], laidTests := true, laidLooks := .later }
def ModelAddsUptoCardSaid : Prop := Claim7.holds Tryz.pinned (.plain (OpenSpec.upto modelAddsSpec)) modelAddsUptoCard

/-- THE SECOND FORM's CARD OF 'tolllaw23.VerifierAccepts'. -/
def verifierAcceptsUptoCard : Claim7 := { stood := { row := verifierAcceptsUptoRow, standIns := [], harness := (true, "b764356f7329798ed1030e2a80fd1f5f3a0a46fa25e34f3882e1ad9034d178f0"), looks := true }, kinds := [], alts := [], laidByText := true, laidKinds := [.data], laidTests := true, laidLooks := .later }
def VerifierAcceptsUptoCardSaid : Prop := Claim7.holds Tryz.pinned (.plain (OpenSpec.upto verifierAcceptsSpec)) verifierAcceptsUptoCard
end Rows
end Go.Proofs.YtjjlaipkkdncfaaGreatDoor
