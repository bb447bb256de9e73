/-
  DERIVED. GIVEN WITH THE SEED: THE CARDS: each row of YtbijjomknbnmfaaGreatDoorRows.lean that lists a variable, with what it lists TIED to the program's text (the seventh form; the later family's looks); each row that meets fmt, with fmt's text TOLD by the authors' own Lean function (tested against real Go, not proved from fmt's source: count such statements apart). THE CARD IS WHAT COUNTS. Prove the row's statement (the work); the ties are given (YtbijjomknbnmfaaGreatDoorTie.lean); close each card by the builder's one call (the guide's Derived/Test/ToyasCard.lean, 'card_holds'). Laid BY PROGRAM, IN A SANDBOX (cutbox-door.mjs). By AI agents, Wed Nov 11 2026. No macro, syntax, notation, axiom, sorry.
-/
import Derived.Test.YtbijjomknbnmfaaGreatDoorRows
import GoSem.ClaimSeven
namespace Go.Proofs.YtbijjomknbnmfaaGreatDoor
namespace Rows

/-- THE TIED CARD OF 'diacriticlaw09.CharsetCuts'. -/
def charsetCutsCard : Claim7 := { stood := { row := charsetCutsRow, standIns := [], harness := (true, "9fef732c1229735ae3feb5e2f1e0c7c489f063bd1326e4c8d623638edb0fd6c1"), looks := false }, kinds := [], alts := [], laidByText := true, laidKinds := [.data, .data, .pinned], laidTests := true, laidLooks := .later }
def CharsetCutsCardSaid : Prop := Claim7.holds Tryz.pinned (.plain (OpenSpec.ofChange charsetCutsSpec)) charsetCutsCard

/-- THE TIED CARD OF 'diacriticlaw09.CharsetNames'. -/
def charsetNamesCard : Claim7 := { stood := { row := charsetNamesRow, standIns := [], harness := (true, "9fef732c1229735ae3feb5e2f1e0c7c489f063bd1326e4c8d623638edb0fd6c1"), looks := false }, kinds := [], alts := [], laidByText := true, laidKinds := [.data, .data, .pinned], laidTests := true, laidLooks := .later }
def CharsetNamesCardSaid : Prop := Claim7.holds Tryz.pinned (.plain (OpenSpec.ofChange charsetNamesSpec)) charsetNamesCard

/-- THE TIED CARD OF 'diacriticlaw09.CharsetTries'. -/
def charsetTriesCard : Claim7 := { stood := { row := charsetTriesRow, standIns := [], harness := (true, "9fef732c1229735ae3feb5e2f1e0c7c489f063bd1326e4c8d623638edb0fd6c1"), looks := false }, kinds := [], alts := [], laidByText := true, laidKinds := [.data, .data, .pinned], laidTests := true, laidLooks := .later }
def CharsetTriesCardSaid : Prop := Claim7.holds Tryz.pinned (.plain (OpenSpec.ofChange charsetTriesSpec)) charsetTriesCard

/-- THE TIED CARD OF 'diacriticlaw10.DetectScores'. -/
def detectScoresCard : Claim7 := { stood := { row := detectScoresRow, standIns := [], harness := (true, "9fef732c1229735ae3feb5e2f1e0c7c489f063bd1326e4c8d623638edb0fd6c1"), looks := false }, kinds := [], alts := [], laidByText := true, laidKinds := [.data, .data, .pinned], laidTests := true, laidLooks := .later }
def DetectScoresCardSaid : Prop := Claim7.holds Tryz.pinned (.plain (OpenSpec.ofChange detectScoresSpec)) detectScoresCard

/-- THE TIED CARD OF 'diacriticlaw10.DetectGuesses'. -/
def detectGuessesCard : Claim7 := { stood := { row := detectGuessesRow, standIns := [], harness := (true, "9fef732c1229735ae3feb5e2f1e0c7c489f063bd1326e4c8d623638edb0fd6c1"), looks := false }, kinds := [], alts := [], laidByText := true, laidKinds := [.data, .data, .pinned], laidTests := true, laidLooks := .later }
def DetectGuessesCardSaid : Prop := Claim7.holds Tryz.pinned (.plain (OpenSpec.ofChange detectGuessesSpec)) detectGuessesCard

/-- THE TIED CARD OF 'diacriticlaw10.DetectSums'. -/
def detectSumsCard : Claim7 := { stood := { row := detectSumsRow, standIns := [], harness := (true, "9fef732c1229735ae3feb5e2f1e0c7c489f063bd1326e4c8d623638edb0fd6c1"), looks := false }, kinds := [], alts := [], laidByText := true, laidKinds := [.data, .data, .pinned], laidTests := true, laidLooks := .later }
def DetectSumsCardSaid : Prop := Claim7.holds Tryz.pinned (.plain (OpenSpec.ofChange detectSumsSpec)) detectSumsCard

/-- THE TIED CARD OF 'diacriticlaw10.DetectMarks'. -/
def detectMarksCard : Claim7 := { stood := { row := detectMarksRow, standIns := [], harness := (true, "9fef732c1229735ae3feb5e2f1e0c7c489f063bd1326e4c8d623638edb0fd6c1"), looks := false }, kinds := [], alts := [], laidByText := true, laidKinds := [.data, .data, .pinned], laidTests := true, laidLooks := .later }
def DetectMarksCardSaid : Prop := Claim7.holds Tryz.pinned (.plain (OpenSpec.ofChange detectMarksSpec)) detectMarksCard

/-- THE TIED CARD OF 'diacriticlaw09.CharsetReads'. -/
def charsetReadsCard : Claim7 := { stood := { row := charsetReadsRow, standIns := [], harness := (true, "9fef732c1229735ae3feb5e2f1e0c7c489f063bd1326e4c8d623638edb0fd6c1"), looks := false }, kinds := [], alts := [], laidByText := true, laidKinds := [.data, .data, .pinned], laidTests := true, laidLooks := .later }
def CharsetReadsCardSaid : Prop := Claim7.holds Tryz.pinned (.plain (OpenSpec.ofChange charsetReadsSpec)) charsetReadsCard

/-- THE TIED CARD OF 'diacriticlaw09.CharsetWrites'. -/
def charsetWritesCard : Claim7 := { stood := { row := charsetWritesRow, standIns := [], harness := (true, "9fef732c1229735ae3feb5e2f1e0c7c489f063bd1326e4c8d623638edb0fd6c1"), looks := false }, kinds := [], alts := [], laidByText := true, laidKinds := [.data, .data, .pinned], laidTests := true, laidLooks := .later }
def CharsetWritesCardSaid : Prop := Claim7.holds Tryz.pinned (.plain (OpenSpec.ofChange charsetWritesSpec)) charsetWritesCard

/-- THE TIED CARD OF 'diacriticlaw09.CharsetPlain'. -/
def charsetPlainCard : Claim7 := { stood := { row := charsetPlainRow, standIns := [], harness := (true, "9fef732c1229735ae3feb5e2f1e0c7c489f063bd1326e4c8d623638edb0fd6c1"), looks := false }, kinds := [], alts := [], laidByText := true, laidKinds := [.data, .data, .pinned], laidTests := true, laidLooks := .later }
def CharsetPlainCardSaid : Prop := Claim7.holds Tryz.pinned (.plain (OpenSpec.ofChange charsetPlainSpec)) charsetPlainCard

/-- THE TIED CARD OF 'diacriticlaw10.DetectResolves'. -/
def detectResolvesCard : Claim7 := { stood := { row := detectResolvesRow, standIns := [], harness := (true, "9fef732c1229735ae3feb5e2f1e0c7c489f063bd1326e4c8d623638edb0fd6c1"), looks := false }, kinds := [], alts := [], laidByText := true, laidKinds := [.data, .data, .pinned], laidTests := true, laidLooks := .later }
def DetectResolvesCardSaid : Prop := Claim7.holds Tryz.pinned (.plain (OpenSpec.ofChange detectResolvesSpec)) detectResolvesCard

/-- THE TIED CARD OF 'diacriticlaw10.DetectSigns'. -/
def detectSignsCard : Claim7 := { stood := { row := detectSignsRow, standIns := [], harness := (true, "9fef732c1229735ae3feb5e2f1e0c7c489f063bd1326e4c8d623638edb0fd6c1"), looks := false }, kinds := [], alts := [], laidByText := true, laidKinds := [.data, .data, .pinned], laidTests := true, laidLooks := .later }
def DetectSignsCardSaid : Prop := Claim7.holds Tryz.pinned (.plain (OpenSpec.ofChange detectSignsSpec)) detectSignsCard

/-- THE SECOND FORM's CARD OF 'diacriticlaw09.CharsetCuts'. -/
def charsetCutsUptoCard : Claim7 := { stood := { row := charsetCutsUptoRow, standIns := [], harness := (true, "9fef732c1229735ae3feb5e2f1e0c7c489f063bd1326e4c8d623638edb0fd6c1"), looks := false }, kinds := [], alts := [], laidByText := true, laidKinds := [.data, .data, .pinned], laidTests := true, laidLooks := .later }
def CharsetCutsUptoCardSaid : Prop := Claim7.holds Tryz.pinned (.plain (OpenSpec.upto charsetCutsSpec)) charsetCutsUptoCard

/-- THE SECOND FORM's CARD OF 'diacriticlaw09.CharsetNames'. -/
def charsetNamesUptoCard : Claim7 := { stood := { row := charsetNamesUptoRow, standIns := [], harness := (true, "9fef732c1229735ae3feb5e2f1e0c7c489f063bd1326e4c8d623638edb0fd6c1"), looks := false }, kinds := [], alts := [], laidByText := true, laidKinds := [.data, .data, .pinned], laidTests := true, laidLooks := .later }
def CharsetNamesUptoCardSaid : Prop := Claim7.holds Tryz.pinned (.plain (OpenSpec.upto charsetNamesSpec)) charsetNamesUptoCard

/-- THE SECOND FORM's CARD OF 'diacriticlaw09.CharsetTries'. -/
def charsetTriesUptoCard : Claim7 := { stood := { row := charsetTriesUptoRow, standIns := [], harness := (true, "9fef732c1229735ae3feb5e2f1e0c7c489f063bd1326e4c8d623638edb0fd6c1"), looks := false }, kinds := [], alts := [], laidByText := true, laidKinds := [.data, .data, .pinned], laidTests := true, laidLooks := .later }
def CharsetTriesUptoCardSaid : Prop := Claim7.holds Tryz.pinned (.plain (OpenSpec.upto charsetTriesSpec)) charsetTriesUptoCard

/-- THE SECOND FORM's CARD OF 'diacriticlaw10.DetectScores'. -/
def detectScoresUptoCard : Claim7 := { stood := { row := detectScoresUptoRow, standIns := [], harness := (true, "9fef732c1229735ae3feb5e2f1e0c7c489f063bd1326e4c8d623638edb0fd6c1"), looks := false }, kinds := [], alts := [], laidByText := true, laidKinds := [.data, .data, .pinned], laidTests := true, laidLooks := .later }
def DetectScoresUptoCardSaid : Prop := Claim7.holds Tryz.pinned (.plain (OpenSpec.upto detectScoresSpec)) detectScoresUptoCard

/-- THE SECOND FORM's CARD OF 'diacriticlaw10.DetectGuesses'. -/
def detectGuessesUptoCard : Claim7 := { stood := { row := detectGuessesUptoRow, standIns := [], harness := (true, "9fef732c1229735ae3feb5e2f1e0c7c489f063bd1326e4c8d623638edb0fd6c1"), looks := false }, kinds := [], alts := [], laidByText := true, laidKinds := [.data, .data, .pinned], laidTests := true, laidLooks := .later }
def DetectGuessesUptoCardSaid : Prop := Claim7.holds Tryz.pinned (.plain (OpenSpec.upto detectGuessesSpec)) detectGuessesUptoCard

/-- THE SECOND FORM's CARD OF 'diacriticlaw10.DetectSums'. -/
def detectSumsUptoCard : Claim7 := { stood := { row := detectSumsUptoRow, standIns := [], harness := (true, "9fef732c1229735ae3feb5e2f1e0c7c489f063bd1326e4c8d623638edb0fd6c1"), looks := false }, kinds := [], alts := [], laidByText := true, laidKinds := [.data, .data, .pinned], laidTests := true, laidLooks := .later }
def DetectSumsUptoCardSaid : Prop := Claim7.holds Tryz.pinned (.plain (OpenSpec.upto detectSumsSpec)) detectSumsUptoCard

/-- THE SECOND FORM's CARD OF 'diacriticlaw10.DetectMarks'. -/
def detectMarksUptoCard : Claim7 := { stood := { row := detectMarksUptoRow, standIns := [], harness := (true, "9fef732c1229735ae3feb5e2f1e0c7c489f063bd1326e4c8d623638edb0fd6c1"), looks := false }, kinds := [], alts := [], laidByText := true, laidKinds := [.data, .data, .pinned], laidTests := true, laidLooks := .later }
def DetectMarksUptoCardSaid : Prop := Claim7.holds Tryz.pinned (.plain (OpenSpec.upto detectMarksSpec)) detectMarksUptoCard

/-- THE SECOND FORM's CARD OF 'diacriticlaw09.CharsetReads'. -/
def charsetReadsUptoCard : Claim7 := { stood := { row := charsetReadsUptoRow, standIns := [], harness := (true, "9fef732c1229735ae3feb5e2f1e0c7c489f063bd1326e4c8d623638edb0fd6c1"), looks := false }, kinds := [], alts := [], laidByText := true, laidKinds := [.data, .data, .pinned], laidTests := true, laidLooks := .later }
def CharsetReadsUptoCardSaid : Prop := Claim7.holds Tryz.pinned (.plain (OpenSpec.upto charsetReadsSpec)) charsetReadsUptoCard

/-- THE SECOND FORM's CARD OF 'diacriticlaw09.CharsetWrites'. -/
def charsetWritesUptoCard : Claim7 := { stood := { row := charsetWritesUptoRow, standIns := [], harness := (true, "9fef732c1229735ae3feb5e2f1e0c7c489f063bd1326e4c8d623638edb0fd6c1"), looks := false }, kinds := [], alts := [], laidByText := true, laidKinds := [.data, .data, .pinned], laidTests := true, laidLooks := .later }
def CharsetWritesUptoCardSaid : Prop := Claim7.holds Tryz.pinned (.plain (OpenSpec.upto charsetWritesSpec)) charsetWritesUptoCard

/-- THE SECOND FORM's CARD OF 'diacriticlaw09.CharsetPlain'. -/
def charsetPlainUptoCard : Claim7 := { stood := { row := charsetPlainUptoRow, standIns := [], harness := (true, "9fef732c1229735ae3feb5e2f1e0c7c489f063bd1326e4c8d623638edb0fd6c1"), looks := false }, kinds := [], alts := [], laidByText := true, laidKinds := [.data, .data, .pinned], laidTests := true, laidLooks := .later }
def CharsetPlainUptoCardSaid : Prop := Claim7.holds Tryz.pinned (.plain (OpenSpec.upto charsetPlainSpec)) charsetPlainUptoCard

/-- THE SECOND FORM's CARD OF 'diacriticlaw10.DetectResolves'. -/
def detectResolvesUptoCard : Claim7 := { stood := { row := detectResolvesUptoRow, standIns := [], harness := (true, "9fef732c1229735ae3feb5e2f1e0c7c489f063bd1326e4c8d623638edb0fd6c1"), looks := false }, kinds := [], alts := [], laidByText := true, laidKinds := [.data, .data, .pinned], laidTests := true, laidLooks := .later }
def DetectResolvesUptoCardSaid : Prop := Claim7.holds Tryz.pinned (.plain (OpenSpec.upto detectResolvesSpec)) detectResolvesUptoCard

/-- THE SECOND FORM's CARD OF 'diacriticlaw10.DetectSigns'. -/
def detectSignsUptoCard : Claim7 := { stood := { row := detectSignsUptoRow, standIns := [], harness := (true, "9fef732c1229735ae3feb5e2f1e0c7c489f063bd1326e4c8d623638edb0fd6c1"), looks := false }, kinds := [], alts := [], laidByText := true, laidKinds := [.data, .data, .pinned], laidTests := true, laidLooks := .later }
def DetectSignsUptoCardSaid : Prop := Claim7.holds Tryz.pinned (.plain (OpenSpec.upto detectSignsSpec)) detectSignsUptoCard
end Rows
end Go.Proofs.YtbijjomknbnmfaaGreatDoor
