/-
  DERIVED. GIVEN WITH THE SEED: THE CARDS: each row of YtjoechkdmdinoaaGreatDoorRows.lean that lists a variable, with what it lists TIED to the program's text (the seventh form; the later family's looks); each row that meets fmt, with fmt's text TOLD by the authors' own Lean function (tested against real Go, not proved from fmt's source: count such statements apart). THE CARD IS WHAT COUNTS. Prove the row's statement (the work); the ties are given (YtjoechkdmdinoaaGreatDoorTie.lean); close each card by the builder's one call (the guide's Derived/Test/ToyasCard.lean, 'card_holds'). Laid BY PROGRAM, IN A SANDBOX (cutbox-door.mjs). By AI agents, Wed Nov 11 2026. No macro, syntax, notation, axiom, sorry.
-/
import Derived.Test.YtjoechkdmdinoaaGreatDoorRows
import GoSem.ClaimSeven
namespace Go.Proofs.YtjoechkdmdinoaaGreatDoor
namespace Rows

/-- THE TIED CARD OF 'diacriticlaw27.SniffKinds'. -/
def sniffKindsCard : Claim7 := { stood := { row := sniffKindsRow, standIns := [], harness := (true, "1d9547c73d30bcfede58e5d4d107a30c7b35f143922390ce048677cce2a70d2e"), looks := true }, kinds := [], alts := [], laidByText := true, laidKinds := [.data, .pinned, .data, .data], laidTests := true, laidLooks := .later }
def SniffKindsCardSaid : Prop := Claim7.holds Tryz.pinned (.plain (OpenSpec.ofChange sniffKindsSpec)) sniffKindsCard

/-- THE TIED CARD OF 'diacriticlaw27.SniffMarks'. -/
def sniffMarksCard : Claim7 := { stood := { row := sniffMarksRow, standIns := [], harness := (true, "1d9547c73d30bcfede58e5d4d107a30c7b35f143922390ce048677cce2a70d2e"), looks := true }, kinds := [], alts := [], laidByText := true, laidKinds := [.data, .pinned, .data, .data], laidTests := true, laidLooks := .later }
def SniffMarksCardSaid : Prop := Claim7.holds Tryz.pinned (.plain (OpenSpec.ofChange sniffMarksSpec)) sniffMarksCard

/-- THE TIED CARD OF 'diacriticlaw27.SniffDeclares'. -/
def sniffDeclaresCard : Claim7 := { stood := { row := sniffDeclaresRow, standIns := [], harness := (true, "1d9547c73d30bcfede58e5d4d107a30c7b35f143922390ce048677cce2a70d2e"), looks := true }, kinds := [], alts := [], laidByText := true, laidKinds := [.data, .pinned, .data, .data], laidTests := true, laidLooks := .later }
def SniffDeclaresCardSaid : Prop := Claim7.holds Tryz.pinned (.plain (OpenSpec.ofChange sniffDeclaresSpec)) sniffDeclaresCard

/-- THE TIED CARD OF 'diacriticlaw30.ReportLeaves'. -/
def reportLeavesCard : Claim7 := { stood := { row := reportLeavesRow, standIns := [], harness := (true, "1d9547c73d30bcfede58e5d4d107a30c7b35f143922390ce048677cce2a70d2e"), looks := true }, kinds := [], alts := [], laidByText := true, laidKinds := [.data, .pinned, .data, .data, .data, .data], laidTests := true, laidLooks := .later }
def ReportLeavesCardSaid : Prop := Claim7.holds Tryz.pinned (.plain (OpenSpec.ofChange reportLeavesSpec)) reportLeavesCard

/-- THE TIED CARD OF 'diacriticlaw30.ReportBytes'. -/
def reportBytesCard : Claim7 := { stood := { row := reportBytesRow, standIns := [], harness := (true, "1d9547c73d30bcfede58e5d4d107a30c7b35f143922390ce048677cce2a70d2e"), looks := true }, kinds := [], alts := [], laidByText := true, laidKinds := [.data, .pinned, .data, .data, .data, .data], laidTests := true, laidLooks := .later }
def ReportBytesCardSaid : Prop := Claim7.holds Tryz.pinned (.plain (OpenSpec.ofChange reportBytesSpec)) reportBytesCard

/-- THE TIED CARD OF 'diacriticlaw30.ReportOptions'. -/
def reportOptionsCard : Claim7 := { stood := { row := reportOptionsRow, standIns := [], harness := (true, "1d9547c73d30bcfede58e5d4d107a30c7b35f143922390ce048677cce2a70d2e"), looks := true }, kinds := [], alts := [], laidByText := true, laidKinds := [.data, .pinned, .data, .data, .data, .data, .data], laidTests := true, laidLooks := .later }
def ReportOptionsCardSaid : Prop := Claim7.holds Tryz.pinned (.plain (OpenSpec.ofChange reportOptionsSpec)) reportOptionsCard

/-- THE TIED CARD OF 'diacriticlaw31.ConsoleFiles'. -/
def consoleFilesCard : Claim7 := { stood := { row := consoleFilesRow, standIns := [], harness := (true, "1d9547c73d30bcfede58e5d4d107a30c7b35f143922390ce048677cce2a70d2e"), looks := true }, kinds := [], alts := [], laidByText := true, laidKinds := [.data, .sentinel, .sentinel, .data, .data, .data, .pinned, .data, .data], laidTests := true, laidLooks := .later }
def ConsoleFilesCardSaid : Prop := Claim7.holds Tryz.pinned (.plain (OpenSpec.ofChange consoleFilesSpec)) consoleFilesCard

/-- THE SECOND FORM's CARD OF 'diacriticlaw27.SniffKinds'. -/
def sniffKindsUptoCard : Claim7 := { stood := { row := sniffKindsUptoRow, standIns := [], harness := (true, "1d9547c73d30bcfede58e5d4d107a30c7b35f143922390ce048677cce2a70d2e"), looks := true }, kinds := [], alts := [], laidByText := true, laidKinds := [.data, .pinned, .data, .data], laidTests := true, laidLooks := .later }
def SniffKindsUptoCardSaid : Prop := Claim7.holds Tryz.pinned (.plain (OpenSpec.upto sniffKindsSpec)) sniffKindsUptoCard

/-- THE SECOND FORM's CARD OF 'diacriticlaw27.SniffMarks'. -/
def sniffMarksUptoCard : Claim7 := { stood := { row := sniffMarksUptoRow, standIns := [], harness := (true, "1d9547c73d30bcfede58e5d4d107a30c7b35f143922390ce048677cce2a70d2e"), looks := true }, kinds := [], alts := [], laidByText := true, laidKinds := [.data, .pinned, .data, .data], laidTests := true, laidLooks := .later }
def SniffMarksUptoCardSaid : Prop := Claim7.holds Tryz.pinned (.plain (OpenSpec.upto sniffMarksSpec)) sniffMarksUptoCard

/-- THE SECOND FORM's CARD OF 'diacriticlaw27.SniffDeclares'. -/
def sniffDeclaresUptoCard : Claim7 := { stood := { row := sniffDeclaresUptoRow, standIns := [], harness := (true, "1d9547c73d30bcfede58e5d4d107a30c7b35f143922390ce048677cce2a70d2e"), looks := true }, kinds := [], alts := [], laidByText := true, laidKinds := [.data, .pinned, .data, .data], laidTests := true, laidLooks := .later }
def SniffDeclaresUptoCardSaid : Prop := Claim7.holds Tryz.pinned (.plain (OpenSpec.upto sniffDeclaresSpec)) sniffDeclaresUptoCard

/-- THE SECOND FORM's CARD OF 'diacriticlaw30.ReportLeaves'. -/
def reportLeavesUptoCard : Claim7 := { stood := { row := reportLeavesUptoRow, standIns := [], harness := (true, "1d9547c73d30bcfede58e5d4d107a30c7b35f143922390ce048677cce2a70d2e"), looks := true }, kinds := [], alts := [], laidByText := true, laidKinds := [.data, .pinned, .data, .data, .data, .data], laidTests := true, laidLooks := .later }
def ReportLeavesUptoCardSaid : Prop := Claim7.holds Tryz.pinned (.plain (OpenSpec.upto reportLeavesSpec)) reportLeavesUptoCard

/-- THE SECOND FORM's CARD OF 'diacriticlaw30.ReportBytes'. -/
def reportBytesUptoCard : Claim7 := { stood := { row := reportBytesUptoRow, standIns := [], harness := (true, "1d9547c73d30bcfede58e5d4d107a30c7b35f143922390ce048677cce2a70d2e"), looks := true }, kinds := [], alts := [], laidByText := true, laidKinds := [.data, .pinned, .data, .data, .data, .data], laidTests := true, laidLooks := .later }
def ReportBytesUptoCardSaid : Prop := Claim7.holds Tryz.pinned (.plain (OpenSpec.upto reportBytesSpec)) reportBytesUptoCard

/-- THE SECOND FORM's CARD OF 'diacriticlaw30.ReportOptions'. -/
def reportOptionsUptoCard : Claim7 := { stood := { row := reportOptionsUptoRow, standIns := [], harness := (true, "1d9547c73d30bcfede58e5d4d107a30c7b35f143922390ce048677cce2a70d2e"), looks := true }, kinds := [], alts := [], laidByText := true, laidKinds := [.data, .pinned, .data, .data, .data, .data, .data], laidTests := true, laidLooks := .later }
def ReportOptionsUptoCardSaid : Prop := Claim7.holds Tryz.pinned (.plain (OpenSpec.upto reportOptionsSpec)) reportOptionsUptoCard

/-- THE SECOND FORM's CARD OF 'diacriticlaw31.ConsoleFiles'. -/
def consoleFilesUptoCard : Claim7 := { stood := { row := consoleFilesUptoRow, standIns := [], harness := (true, "1d9547c73d30bcfede58e5d4d107a30c7b35f143922390ce048677cce2a70d2e"), looks := true }, kinds := [], alts := [], laidByText := true, laidKinds := [.data, .sentinel, .sentinel, .data, .data, .data, .pinned, .data, .data], laidTests := true, laidLooks := .later }
def ConsoleFilesUptoCardSaid : Prop := Claim7.holds Tryz.pinned (.plain (OpenSpec.upto consoleFilesSpec)) consoleFilesUptoCard
end Rows
end Go.Proofs.YtjoechkdmdinoaaGreatDoor
