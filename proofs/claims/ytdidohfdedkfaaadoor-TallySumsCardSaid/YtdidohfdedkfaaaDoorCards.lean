/-
  DERIVED. GIVEN WITH THE SEED: THE CARDS: each row of YtdidohfdedkfaaaDoorRows.lean that lists a variable, with what it lists TIED to the program's text (the seventh form; the later family's looks); each row that meets fmt, with fmt's text TOLD by the authors' own Lean function (tested against real Go, not proved from fmt's source: count such statements apart). THE CARD IS WHAT COUNTS. Prove the row's statement (the work); the ties are given (YtdidohfdedkfaaaDoorTie.lean); close each card by the builder's one call (the guide's Derived/Test/ToyasCard.lean, 'card_holds'). Laid BY PROGRAM, IN A SANDBOX (cutbox-door.mjs). By AI agents, Wed Nov 11 2026. No macro, syntax, notation, axiom, sorry.
-/
import Derived.Test.YtdidohfdedkfaaaDoorRows
import GoSem.ClaimSeven
namespace Go.Proofs.YtdidohfdedkfaaaDoor
namespace Rows

/-- THE TIED CARD OF 'tolllaw28.TallyMatchesReference'. -/
def tallyMatchesReferenceCard : Claim7 := { stood := { row := tallyMatchesReferenceRow, standIns := [], harness := (true, "9ad11728789e2d64ba806870c12ae777429e9dba54ba4b440b50b728e9873453"), looks := false }, kinds := [], alts := [], laidByText := true, laidKinds := [.data, .data, .data], laidTests := true, laidLooks := .later }
def TallyMatchesReferenceCardSaid : Prop := Claim7.holds Tryd.pinned (.plain (OpenSpec.ofChange tallyMatchesReferenceSpec)) tallyMatchesReferenceCard

/-- THE TIED CARD OF 'tolllaw28.TallyJoins'. -/
def tallyJoinsCard : Claim7 := { stood := { row := tallyJoinsRow, standIns := [], harness := (true, "9ad11728789e2d64ba806870c12ae777429e9dba54ba4b440b50b728e9873453"), looks := false }, kinds := [], alts := [], laidByText := true, laidKinds := [.data, .data, .data], laidTests := true, laidLooks := .later }
def TallyJoinsCardSaid : Prop := Claim7.holds Tryd.pinned (.plain (OpenSpec.ofChange tallyJoinsSpec)) tallyJoinsCard

/-- THE TIED CARD OF 'tolllaw28.TallySums'. -/
def tallySumsCard : Claim7 := { stood := { row := tallySumsRow, standIns := [], harness := (true, "9ad11728789e2d64ba806870c12ae777429e9dba54ba4b440b50b728e9873453"), looks := false }, kinds := [], alts := [], laidByText := true, laidKinds := [.data, .data, .data], laidTests := true, laidLooks := .later }
def TallySumsCardSaid : Prop := Claim7.holds Tryd.pinned (.plain (OpenSpec.ofChange tallySumsSpec)) tallySumsCard

/-- THE TIED CARD OF 'tolllaw28.TallyParts'. -/
def tallyPartsCard : Claim7 := { stood := { row := tallyPartsRow, standIns := [], harness := (true, "9ad11728789e2d64ba806870c12ae777429e9dba54ba4b440b50b728e9873453"), looks := false }, kinds := [], alts := [], laidByText := true, laidKinds := [.data, .data, .data], laidTests := true, laidLooks := .later }
def TallyPartsCardSaid : Prop := Claim7.holds Tryd.pinned (.plain (OpenSpec.ofChange tallyPartsSpec)) tallyPartsCard

/-- THE SECOND FORM's CARD OF 'tolllaw28.TallyMatchesReference'. -/
def tallyMatchesReferenceUptoCard : Claim7 := { stood := { row := tallyMatchesReferenceUptoRow, standIns := [], harness := (true, "9ad11728789e2d64ba806870c12ae777429e9dba54ba4b440b50b728e9873453"), looks := false }, kinds := [], alts := [], laidByText := true, laidKinds := [.data, .data, .data], laidTests := true, laidLooks := .later }
def TallyMatchesReferenceUptoCardSaid : Prop := Claim7.holds Tryd.pinned (.plain (OpenSpec.upto tallyMatchesReferenceSpec)) tallyMatchesReferenceUptoCard

/-- THE SECOND FORM's CARD OF 'tolllaw28.TallyJoins'. -/
def tallyJoinsUptoCard : Claim7 := { stood := { row := tallyJoinsUptoRow, standIns := [], harness := (true, "9ad11728789e2d64ba806870c12ae777429e9dba54ba4b440b50b728e9873453"), looks := false }, kinds := [], alts := [], laidByText := true, laidKinds := [.data, .data, .data], laidTests := true, laidLooks := .later }
def TallyJoinsUptoCardSaid : Prop := Claim7.holds Tryd.pinned (.plain (OpenSpec.upto tallyJoinsSpec)) tallyJoinsUptoCard

/-- THE SECOND FORM's CARD OF 'tolllaw28.TallySums'. -/
def tallySumsUptoCard : Claim7 := { stood := { row := tallySumsUptoRow, standIns := [], harness := (true, "9ad11728789e2d64ba806870c12ae777429e9dba54ba4b440b50b728e9873453"), looks := false }, kinds := [], alts := [], laidByText := true, laidKinds := [.data, .data, .data], laidTests := true, laidLooks := .later }
def TallySumsUptoCardSaid : Prop := Claim7.holds Tryd.pinned (.plain (OpenSpec.upto tallySumsSpec)) tallySumsUptoCard

/-- THE SECOND FORM's CARD OF 'tolllaw28.TallyParts'. -/
def tallyPartsUptoCard : Claim7 := { stood := { row := tallyPartsUptoRow, standIns := [], harness := (true, "9ad11728789e2d64ba806870c12ae777429e9dba54ba4b440b50b728e9873453"), looks := false }, kinds := [], alts := [], laidByText := true, laidKinds := [.data, .data, .data], laidTests := true, laidLooks := .later }
def TallyPartsUptoCardSaid : Prop := Claim7.holds Tryd.pinned (.plain (OpenSpec.upto tallyPartsSpec)) tallyPartsUptoCard
end Rows
end Go.Proofs.YtdidohfdedkfaaaDoor
