/-
  DERIVED. GIVEN WITH THE SEED: THE CARDS: each row of YtankkegoeocobaaGreatDoorRows.lean that lists a variable, with what it lists TIED to the program's text (the seventh form; the later family's looks); each row that meets fmt, with fmt's text TOLD by the authors' own Lean function (tested against real Go, not proved from fmt's source: count such statements apart). THE CARD IS WHAT COUNTS. Prove the row's statement (the work); the ties are given (YtankkegoeocobaaGreatDoorTie.lean); close each card by the builder's one call (the guide's Derived/Test/ToyasCard.lean, 'card_holds'). Laid BY PROGRAM, IN A SANDBOX (cutbox-door.mjs). By AI agents, Wed Nov 11 2026. No macro, syntax, notation, axiom, sorry.
-/
import Derived.Test.YtankkegoeocobaaGreatDoorRows
import GoSem.ClaimSeven
namespace Go.Proofs.YtankkegoeocobaaGreatDoor
namespace Rows

/-- THE TIED CARD OF 'diacriticlaw28.FileWrong'. -/
def fileWrongCard : Claim7 := { stood := { row := fileWrongRow, standIns := [], harness := (true, "f6ca775bdd25735cbcdbff7c9c7a55ace239f19b75569a411da92521d41c830f"), looks := true }, kinds := [], alts := [], laidByText := true, laidKinds := [.data, .data, .data, .pinned], laidTests := true, laidLooks := .later }
def FileWrongCardSaid : Prop := Claim7.holds Tryz.pinned (.plain (OpenSpec.ofChange fileWrongSpec)) fileWrongCard

/-- THE TIED CARD OF 'diacriticlaw29.NormalOptions'. -/
def normalOptionsCard : Claim7 := { stood := { row := normalOptionsRow, standIns := [], harness := (true, "f6ca775bdd25735cbcdbff7c9c7a55ace239f19b75569a411da92521d41c830f"), looks := true }, kinds := [], alts := [], laidByText := true, laidKinds := [.data, .data, .data, .pinned], laidTests := true, laidLooks := .later }
def NormalOptionsCardSaid : Prop := Claim7.holds Tryz.pinned (.plain (OpenSpec.ofChange normalOptionsSpec)) normalOptionsCard

/-- THE TIED CARD OF 'diacriticlaw30.ReportFaults'. -/
def reportFaultsCard : Claim7 := { stood := { row := reportFaultsRow, standIns := [], harness := (true, "f6ca775bdd25735cbcdbff7c9c7a55ace239f19b75569a411da92521d41c830f"), looks := true }, kinds := [], alts := [], laidByText := true, laidKinds := [.data, .data, .data, .data, .data, .pinned], laidTests := true, laidLooks := .later }
def ReportFaultsCardSaid : Prop := Claim7.holds Tryz.pinned (.plain (OpenSpec.ofChange reportFaultsSpec)) reportFaultsCard

/-- THE TIED CARD OF 'diacriticlaw30.ReportNames'. -/
def reportNamesCard : Claim7 := { stood := { row := reportNamesRow, standIns := [], harness := (true, "f6ca775bdd25735cbcdbff7c9c7a55ace239f19b75569a411da92521d41c830f"), looks := true }, kinds := [], alts := [], laidByText := true, laidKinds := [.data, .data, .data, .data, .data, .data, .pinned], laidTests := true, laidLooks := .later }
def ReportNamesCardSaid : Prop := Claim7.holds Tryz.pinned (.plain (OpenSpec.ofChange reportNamesSpec)) reportNamesCard

/-- THE TIED CARD OF 'diacriticlaw30.ReportLeaves'. -/
def reportLeavesCard : Claim7 := { stood := { row := reportLeavesRow, standIns := [], harness := (true, "f6ca775bdd25735cbcdbff7c9c7a55ace239f19b75569a411da92521d41c830f"), looks := true }, kinds := [], alts := [], laidByText := true, laidKinds := [.data, .data, .data, .data, .data, .pinned], laidTests := true, laidLooks := .later }
def ReportLeavesCardSaid : Prop := Claim7.holds Tryz.pinned (.plain (OpenSpec.ofChange reportLeavesSpec)) reportLeavesCard

/-- THE TIED CARD OF 'diacriticlaw30.ReportBytes'. -/
def reportBytesCard : Claim7 := { stood := { row := reportBytesRow, standIns := [], harness := (true, "f6ca775bdd25735cbcdbff7c9c7a55ace239f19b75569a411da92521d41c830f"), looks := true }, kinds := [], alts := [], laidByText := true, laidKinds := [.data, .data, .data, .data, .data, .pinned], laidTests := true, laidLooks := .later }
def ReportBytesCardSaid : Prop := Claim7.holds Tryz.pinned (.plain (OpenSpec.ofChange reportBytesSpec)) reportBytesCard

/-- THE TIED CARD OF 'diacriticlaw30.ReportOptions'. -/
def reportOptionsCard : Claim7 := { stood := { row := reportOptionsRow, standIns := [], harness := (true, "f6ca775bdd25735cbcdbff7c9c7a55ace239f19b75569a411da92521d41c830f"), looks := true }, kinds := [], alts := [], laidByText := true, laidKinds := [.data, .data, .data, .data, .data, .data, .pinned], laidTests := true, laidLooks := .later }
def ReportOptionsCardSaid : Prop := Claim7.holds Tryz.pinned (.plain (OpenSpec.ofChange reportOptionsSpec)) reportOptionsCard

/-- THE TIED CARD OF 'diacriticlaw31.ConsoleFiles'. -/
def consoleFilesCard : Claim7 := { stood := { row := consoleFilesRow, standIns := [], harness := (true, "f6ca775bdd25735cbcdbff7c9c7a55ace239f19b75569a411da92521d41c830f"), looks := true }, kinds := [], alts := [], laidByText := true, laidKinds := [.data, .data, .data, .data, .sentinel, .sentinel, .data, .data, .pinned], laidTests := true, laidLooks := .later }
def ConsoleFilesCardSaid : Prop := Claim7.holds Tryz.pinned (.plain (OpenSpec.ofChange consoleFilesSpec)) consoleFilesCard

/-- THE TIED CARD OF 'diacriticlaw31.ConsoleNil'. -/
def consoleNilCard : Claim7 := { stood := { row := consoleNilRow, standIns := [], harness := (true, "f6ca775bdd25735cbcdbff7c9c7a55ace239f19b75569a411da92521d41c830f"), looks := true }, kinds := [], alts := [], laidByText := true, laidKinds := [.data, .data, .data, .data, .sentinel, .sentinel, .data, .data, .pinned], laidTests := true, laidLooks := .later }
def ConsoleNilCardSaid : Prop := Claim7.holds Tryz.pinned (.plain (OpenSpec.ofChange consoleNilSpec)) consoleNilCard

/-- THE SECOND FORM's CARD OF 'diacriticlaw28.FileWrong'. -/
def fileWrongUptoCard : Claim7 := { stood := { row := fileWrongUptoRow, standIns := [], harness := (true, "f6ca775bdd25735cbcdbff7c9c7a55ace239f19b75569a411da92521d41c830f"), looks := true }, kinds := [], alts := [], laidByText := true, laidKinds := [.data, .data, .data, .pinned], laidTests := true, laidLooks := .later }
def FileWrongUptoCardSaid : Prop := Claim7.holds Tryz.pinned (.plain (OpenSpec.upto fileWrongSpec)) fileWrongUptoCard

/-- THE SECOND FORM's CARD OF 'diacriticlaw29.NormalOptions'. -/
def normalOptionsUptoCard : Claim7 := { stood := { row := normalOptionsUptoRow, standIns := [], harness := (true, "f6ca775bdd25735cbcdbff7c9c7a55ace239f19b75569a411da92521d41c830f"), looks := true }, kinds := [], alts := [], laidByText := true, laidKinds := [.data, .data, .data, .pinned], laidTests := true, laidLooks := .later }
def NormalOptionsUptoCardSaid : Prop := Claim7.holds Tryz.pinned (.plain (OpenSpec.upto normalOptionsSpec)) normalOptionsUptoCard

/-- THE SECOND FORM's CARD OF 'diacriticlaw30.ReportFaults'. -/
def reportFaultsUptoCard : Claim7 := { stood := { row := reportFaultsUptoRow, standIns := [], harness := (true, "f6ca775bdd25735cbcdbff7c9c7a55ace239f19b75569a411da92521d41c830f"), looks := true }, kinds := [], alts := [], laidByText := true, laidKinds := [.data, .data, .data, .data, .data, .pinned], laidTests := true, laidLooks := .later }
def ReportFaultsUptoCardSaid : Prop := Claim7.holds Tryz.pinned (.plain (OpenSpec.upto reportFaultsSpec)) reportFaultsUptoCard

/-- THE SECOND FORM's CARD OF 'diacriticlaw30.ReportNames'. -/
def reportNamesUptoCard : Claim7 := { stood := { row := reportNamesUptoRow, standIns := [], harness := (true, "f6ca775bdd25735cbcdbff7c9c7a55ace239f19b75569a411da92521d41c830f"), looks := true }, kinds := [], alts := [], laidByText := true, laidKinds := [.data, .data, .data, .data, .data, .data, .pinned], laidTests := true, laidLooks := .later }
def ReportNamesUptoCardSaid : Prop := Claim7.holds Tryz.pinned (.plain (OpenSpec.upto reportNamesSpec)) reportNamesUptoCard

/-- THE SECOND FORM's CARD OF 'diacriticlaw30.ReportLeaves'. -/
def reportLeavesUptoCard : Claim7 := { stood := { row := reportLeavesUptoRow, standIns := [], harness := (true, "f6ca775bdd25735cbcdbff7c9c7a55ace239f19b75569a411da92521d41c830f"), looks := true }, kinds := [], alts := [], laidByText := true, laidKinds := [.data, .data, .data, .data, .data, .pinned], laidTests := true, laidLooks := .later }
def ReportLeavesUptoCardSaid : Prop := Claim7.holds Tryz.pinned (.plain (OpenSpec.upto reportLeavesSpec)) reportLeavesUptoCard

/-- THE SECOND FORM's CARD OF 'diacriticlaw30.ReportBytes'. -/
def reportBytesUptoCard : Claim7 := { stood := { row := reportBytesUptoRow, standIns := [], harness := (true, "f6ca775bdd25735cbcdbff7c9c7a55ace239f19b75569a411da92521d41c830f"), looks := true }, kinds := [], alts := [], laidByText := true, laidKinds := [.data, .data, .data, .data, .data, .pinned], laidTests := true, laidLooks := .later }
def ReportBytesUptoCardSaid : Prop := Claim7.holds Tryz.pinned (.plain (OpenSpec.upto reportBytesSpec)) reportBytesUptoCard

/-- THE SECOND FORM's CARD OF 'diacriticlaw30.ReportOptions'. -/
def reportOptionsUptoCard : Claim7 := { stood := { row := reportOptionsUptoRow, standIns := [], harness := (true, "f6ca775bdd25735cbcdbff7c9c7a55ace239f19b75569a411da92521d41c830f"), looks := true }, kinds := [], alts := [], laidByText := true, laidKinds := [.data, .data, .data, .data, .data, .data, .pinned], laidTests := true, laidLooks := .later }
def ReportOptionsUptoCardSaid : Prop := Claim7.holds Tryz.pinned (.plain (OpenSpec.upto reportOptionsSpec)) reportOptionsUptoCard

/-- THE SECOND FORM's CARD OF 'diacriticlaw31.ConsoleFiles'. -/
def consoleFilesUptoCard : Claim7 := { stood := { row := consoleFilesUptoRow, standIns := [], harness := (true, "f6ca775bdd25735cbcdbff7c9c7a55ace239f19b75569a411da92521d41c830f"), looks := true }, kinds := [], alts := [], laidByText := true, laidKinds := [.data, .data, .data, .data, .sentinel, .sentinel, .data, .data, .pinned], laidTests := true, laidLooks := .later }
def ConsoleFilesUptoCardSaid : Prop := Claim7.holds Tryz.pinned (.plain (OpenSpec.upto consoleFilesSpec)) consoleFilesUptoCard

/-- THE SECOND FORM's CARD OF 'diacriticlaw31.ConsoleNil'. -/
def consoleNilUptoCard : Claim7 := { stood := { row := consoleNilUptoRow, standIns := [], harness := (true, "f6ca775bdd25735cbcdbff7c9c7a55ace239f19b75569a411da92521d41c830f"), looks := true }, kinds := [], alts := [], laidByText := true, laidKinds := [.data, .data, .data, .data, .sentinel, .sentinel, .data, .data, .pinned], laidTests := true, laidLooks := .later }
def ConsoleNilUptoCardSaid : Prop := Claim7.holds Tryz.pinned (.plain (OpenSpec.upto consoleNilSpec)) consoleNilUptoCard
end Rows
end Go.Proofs.YtankkegoeocobaaGreatDoor
