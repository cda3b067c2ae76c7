/-
  DERIVED. GIVEN WITH THE SEED: THE CARDS: each row of YtmhckcghfikeiaaDoorRows.lean that lists a variable, with what it lists TIED to the program's text (the seventh form; the later family's looks); each row that meets fmt, with fmt's text TOLD by the authors' own Lean function (tested against real Go, not proved from fmt's source: count such statements apart). THE CARD IS WHAT COUNTS. Prove the row's statement (the work); the ties are given (YtmhckcghfikeiaaDoorTie.lean); close each card by the builder's one call (the guide's Derived/Test/ToyasCard.lean, 'card_holds'). Laid BY PROGRAM, IN A SANDBOX (cutbox-door.mjs). By AI agents, Wed Nov 11 2026. No macro, syntax, notation, axiom, sorry.
-/
import Derived.Test.YtmhckcghfikeiaaDoorRows
import GoSem.ClaimSeven
namespace Go.Proofs.YtmhckcghfikeiaaDoor
namespace Rows

/-- THE TIED CARD OF 'tolllaw27.AuditMatchesReference'. -/
def auditMatchesReferenceCard : Claim7 := { stood := { row := auditMatchesReferenceRow, standIns := [], harness := (true, "6c97cc49f161876375d22b70f8d0a619a00bed1f2ad1bdc532f26a8bef0d71e6"), looks := false }, kinds := [], alts := [], laidByText := true, laidKinds := [.data, .data, .data], laidTests := true, laidLooks := .later }
def AuditMatchesReferenceCardSaid : Prop := Claim7.holds Tryd.pinned (.plain (OpenSpec.ofChange auditMatchesReferenceSpec)) auditMatchesReferenceCard

/-- THE TIED CARD OF 'tolllaw27.AuditFirst'. -/
def auditFirstCard : Claim7 := { stood := { row := auditFirstRow, standIns := [], harness := (true, "6c97cc49f161876375d22b70f8d0a619a00bed1f2ad1bdc532f26a8bef0d71e6"), looks := false }, kinds := [], alts := [], laidByText := true, laidKinds := [.data, .data, .data], laidTests := true, laidLooks := .later }
def AuditFirstCardSaid : Prop := Claim7.holds Tryd.pinned (.plain (OpenSpec.ofChange auditFirstSpec)) auditFirstCard

/-- THE TIED CARD OF 'tolllaw27.AuditBegins'. -/
def auditBeginsCard : Claim7 := { stood := { row := auditBeginsRow, standIns := [], harness := (true, "6c97cc49f161876375d22b70f8d0a619a00bed1f2ad1bdc532f26a8bef0d71e6"), looks := false }, kinds := [], alts := [], laidByText := true, laidKinds := [.data, .data, .data], laidTests := true, laidLooks := .later }
def AuditBeginsCardSaid : Prop := Claim7.holds Tryd.pinned (.plain (OpenSpec.ofChange auditBeginsSpec)) auditBeginsCard

/-- THE TIED CARD OF 'tolllaw27.AuditTexts'. -/
def auditTextsCard : Claim7 := { stood := { row := auditTextsRow, standIns := [], harness := (true, "6c97cc49f161876375d22b70f8d0a619a00bed1f2ad1bdc532f26a8bef0d71e6"), looks := false }, kinds := [], alts := [], laidByText := true, laidKinds := [.data, .data, .data], laidTests := true, laidLooks := .later }
def AuditTextsCardSaid : Prop := Claim7.holds Tryd.pinned (.plain (OpenSpec.ofChange auditTextsSpec)) auditTextsCard

/-- THE SECOND FORM's CARD OF 'tolllaw27.AuditMatchesReference'. -/
def auditMatchesReferenceUptoCard : Claim7 := { stood := { row := auditMatchesReferenceUptoRow, standIns := [], harness := (true, "6c97cc49f161876375d22b70f8d0a619a00bed1f2ad1bdc532f26a8bef0d71e6"), looks := false }, kinds := [], alts := [], laidByText := true, laidKinds := [.data, .data, .data], laidTests := true, laidLooks := .later }
def AuditMatchesReferenceUptoCardSaid : Prop := Claim7.holds Tryd.pinned (.plain (OpenSpec.upto auditMatchesReferenceSpec)) auditMatchesReferenceUptoCard

/-- THE SECOND FORM's CARD OF 'tolllaw27.AuditFirst'. -/
def auditFirstUptoCard : Claim7 := { stood := { row := auditFirstUptoRow, standIns := [], harness := (true, "6c97cc49f161876375d22b70f8d0a619a00bed1f2ad1bdc532f26a8bef0d71e6"), looks := false }, kinds := [], alts := [], laidByText := true, laidKinds := [.data, .data, .data], laidTests := true, laidLooks := .later }
def AuditFirstUptoCardSaid : Prop := Claim7.holds Tryd.pinned (.plain (OpenSpec.upto auditFirstSpec)) auditFirstUptoCard

/-- THE SECOND FORM's CARD OF 'tolllaw27.AuditBegins'. -/
def auditBeginsUptoCard : Claim7 := { stood := { row := auditBeginsUptoRow, standIns := [], harness := (true, "6c97cc49f161876375d22b70f8d0a619a00bed1f2ad1bdc532f26a8bef0d71e6"), looks := false }, kinds := [], alts := [], laidByText := true, laidKinds := [.data, .data, .data], laidTests := true, laidLooks := .later }
def AuditBeginsUptoCardSaid : Prop := Claim7.holds Tryd.pinned (.plain (OpenSpec.upto auditBeginsSpec)) auditBeginsUptoCard

/-- THE SECOND FORM's CARD OF 'tolllaw27.AuditTexts'. -/
def auditTextsUptoCard : Claim7 := { stood := { row := auditTextsUptoRow, standIns := [], harness := (true, "6c97cc49f161876375d22b70f8d0a619a00bed1f2ad1bdc532f26a8bef0d71e6"), looks := false }, kinds := [], alts := [], laidByText := true, laidKinds := [.data, .data, .data], laidTests := true, laidLooks := .later }
def AuditTextsUptoCardSaid : Prop := Claim7.holds Tryd.pinned (.plain (OpenSpec.upto auditTextsSpec)) auditTextsUptoCard
end Rows
end Go.Proofs.YtmhckcghfikeiaaDoor
