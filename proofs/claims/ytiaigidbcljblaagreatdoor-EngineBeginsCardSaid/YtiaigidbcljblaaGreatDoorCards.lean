/-
  DERIVED. GIVEN WITH THE SEED: THE CARDS: each row of YtiaigidbcljblaaGreatDoorRows.lean that lists a variable, with what it lists TIED to the program's text (the seventh form; the later family's looks); each row that meets fmt, with fmt's text TOLD by the authors' own Lean function (tested against real Go, not proved from fmt's source: count such statements apart). THE CARD IS WHAT COUNTS. Prove the row's statement (the work); the ties are given (YtiaigidbcljblaaGreatDoorTie.lean); close each card by the builder's one call (the guide's Derived/Test/ToyasCard.lean, 'card_holds'). Laid BY PROGRAM, IN A SANDBOX (cutbox-door.mjs). By AI agents, Wed Nov 11 2026. No macro, syntax, notation, axiom, sorry.
-/
import Derived.Test.YtiaigidbcljblaaGreatDoorRows
import GoSem.ClaimSeven
namespace Go.Proofs.YtiaigidbcljblaaGreatDoor
namespace Rows

/-- THE TIED CARD OF 'tolllaw25.EngineTexts'. -/
def engineTextsCard : Claim7 := { stood := { row := engineTextsRow, standIns := [], harness := (true, "86d72bc702bf60471038e1311466cd54bd402a4d773da23ac6c3acc62835eb2e"), looks := true }, kinds := [], alts := [], laidByText := true, laidKinds := [.data, .data, .data, .data], laidTests := true, laidLooks := .later }
def EngineTextsCardSaid : Prop := Claim7.holds Tryz.pinned (.plain (OpenSpec.ofChange engineTextsSpec)) engineTextsCard

/-- THE TIED CARD OF 'tolllaw25.EngineBegins'. -/
def engineBeginsCard : Claim7 := { stood := { row := engineBeginsRow, standIns := [], harness := (true, "86d72bc702bf60471038e1311466cd54bd402a4d773da23ac6c3acc62835eb2e"), looks := true }, kinds := [], alts := [], laidByText := true, laidKinds := [.data, .data, .data, .data], laidTests := true, laidLooks := .later }
def EngineBeginsCardSaid : Prop := Claim7.holds Tryz.pinned (.plain (OpenSpec.ofChange engineBeginsSpec)) engineBeginsCard

/-- THE TIED CARD OF 'tolllaw25.EngineScripts'. -/
def engineScriptsCard : Claim7 := { stood := { row := engineScriptsRow, standIns := [], harness := (true, "86d72bc702bf60471038e1311466cd54bd402a4d773da23ac6c3acc62835eb2e"), looks := true }, kinds := [], alts := [], laidByText := true, laidKinds := [.data, .data, .data, .data], laidTests := true, laidLooks := .later }
def EngineScriptsCardSaid : Prop := Claim7.holds Tryz.pinned (.plain (OpenSpec.ofChange engineScriptsSpec)) engineScriptsCard

/-- THE SECOND FORM's CARD OF 'tolllaw25.EngineTexts'. -/
def engineTextsUptoCard : Claim7 := { stood := { row := engineTextsUptoRow, standIns := [], harness := (true, "86d72bc702bf60471038e1311466cd54bd402a4d773da23ac6c3acc62835eb2e"), looks := true }, kinds := [], alts := [], laidByText := true, laidKinds := [.data, .data, .data, .data], laidTests := true, laidLooks := .later }
def EngineTextsUptoCardSaid : Prop := Claim7.holds Tryz.pinned (.plain (OpenSpec.upto engineTextsSpec)) engineTextsUptoCard

/-- THE SECOND FORM's CARD OF 'tolllaw25.EngineBegins'. -/
def engineBeginsUptoCard : Claim7 := { stood := { row := engineBeginsUptoRow, standIns := [], harness := (true, "86d72bc702bf60471038e1311466cd54bd402a4d773da23ac6c3acc62835eb2e"), looks := true }, kinds := [], alts := [], laidByText := true, laidKinds := [.data, .data, .data, .data], laidTests := true, laidLooks := .later }
def EngineBeginsUptoCardSaid : Prop := Claim7.holds Tryz.pinned (.plain (OpenSpec.upto engineBeginsSpec)) engineBeginsUptoCard

/-- THE SECOND FORM's CARD OF 'tolllaw25.EngineScripts'. -/
def engineScriptsUptoCard : Claim7 := { stood := { row := engineScriptsUptoRow, standIns := [], harness := (true, "86d72bc702bf60471038e1311466cd54bd402a4d773da23ac6c3acc62835eb2e"), looks := true }, kinds := [], alts := [], laidByText := true, laidKinds := [.data, .data, .data, .data], laidTests := true, laidLooks := .later }
def EngineScriptsUptoCardSaid : Prop := Claim7.holds Tryz.pinned (.plain (OpenSpec.upto engineScriptsSpec)) engineScriptsUptoCard
end Rows
end Go.Proofs.YtiaigidbcljblaaGreatDoor
