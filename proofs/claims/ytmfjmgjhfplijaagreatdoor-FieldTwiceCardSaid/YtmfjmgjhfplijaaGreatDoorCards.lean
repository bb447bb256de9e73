/-
  DERIVED. GIVEN WITH THE SEED: THE CARDS: each row of YtmfjmgjhfplijaaGreatDoorRows.lean that lists a variable, with what it lists TIED to the program's text (the seventh form; the later family's looks); each row that meets fmt, with fmt's text TOLD by the authors' own Lean function (tested against real Go, not proved from fmt's source: count such statements apart). THE CARD IS WHAT COUNTS. Prove the row's statement (the work); the ties are given (YtmfjmgjhfplijaaGreatDoorTie.lean); close each card by the builder's one call (the guide's Derived/Test/ToyasCard.lean, 'card_holds'). Laid BY PROGRAM, IN A SANDBOX (cutbox-door.mjs). By AI agents, Wed Nov 11 2026. No macro, syntax, notation, axiom, sorry.
-/
import Derived.Test.YtmfjmgjhfplijaaGreatDoorRows
import GoSem.ClaimSeven
namespace Go.Proofs.YtmfjmgjhfplijaaGreatDoor
namespace Rows

/-- THE TIED CARD OF 'diacriticlaw21.FlacReads'. -/
def flacReadsCard : Claim7 := { stood := { row := flacReadsRow, standIns := [], harness := (true, "e654c13b6c1bb9bb6be983360dbbdfe4d6e76d00b176620556b1a691de548ada"), looks := false }, kinds := [], alts := [], laidByText := true, laidKinds := [.data, .data, .pinned], laidTests := true, laidLooks := .later }
def FlacReadsCardSaid : Prop := Claim7.holds Tryz.pinned (.plain (OpenSpec.ofChange flacReadsSpec)) flacReadsCard

/-- THE TIED CARD OF 'diacriticlaw14.FieldTwice'. -/
def fieldTwiceCard : Claim7 := { stood := { row := fieldTwiceRow, standIns := [], harness := (true, "e654c13b6c1bb9bb6be983360dbbdfe4d6e76d00b176620556b1a691de548ada"), looks := false }, kinds := [], alts := [], laidByText := true, laidKinds := [.data, .data, .pinned], laidTests := true, laidLooks := .later }
def FieldTwiceCardSaid : Prop := Claim7.holds Tryz.pinned (.plain (OpenSpec.ofChange fieldTwiceSpec)) fieldTwiceCard

/-- THE TIED CARD OF 'diacriticlaw20.OggPrints'. -/
def oggPrintsCard : Claim7 := { stood := { row := oggPrintsRow, standIns := [], harness := (true, "e654c13b6c1bb9bb6be983360dbbdfe4d6e76d00b176620556b1a691de548ada"), looks := false }, kinds := [], alts := [], laidByText := true, laidKinds := [.data, .data, .pinned], laidTests := true, laidLooks := .later }
def OggPrintsCardSaid : Prop := Claim7.holds Tryz.pinned (.plain (OpenSpec.ofChange oggPrintsSpec)) oggPrintsCard

/-- THE TIED CARD OF 'diacriticlaw20.OggTwice'. -/
def oggTwiceCard : Claim7 := { stood := { row := oggTwiceRow, standIns := [], harness := (true, "e654c13b6c1bb9bb6be983360dbbdfe4d6e76d00b176620556b1a691de548ada"), looks := false }, kinds := [], alts := [], laidByText := true, laidKinds := [.data, .data, .pinned], laidTests := true, laidLooks := .later }
def OggTwiceCardSaid : Prop := Claim7.holds Tryz.pinned (.plain (OpenSpec.ofChange oggTwiceSpec)) oggTwiceCard

/-- THE TIED CARD OF 'diacriticlaw20.OggSums'. -/
def oggSumsCard : Claim7 := { stood := { row := oggSumsRow, standIns := [], harness := (true, "e654c13b6c1bb9bb6be983360dbbdfe4d6e76d00b176620556b1a691de548ada"), looks := false }, kinds := [], alts := [], laidByText := true, laidKinds := [.data, .data, .pinned], laidTests := true, laidLooks := .later }
def OggSumsCardSaid : Prop := Claim7.holds Tryz.pinned (.plain (OpenSpec.ofChange oggSumsSpec)) oggSumsCard

/-- THE SECOND FORM's CARD OF 'diacriticlaw21.FlacReads'. -/
def flacReadsUptoCard : Claim7 := { stood := { row := flacReadsUptoRow, standIns := [], harness := (true, "e654c13b6c1bb9bb6be983360dbbdfe4d6e76d00b176620556b1a691de548ada"), looks := false }, kinds := [], alts := [], laidByText := true, laidKinds := [.data, .data, .pinned], laidTests := true, laidLooks := .later }
def FlacReadsUptoCardSaid : Prop := Claim7.holds Tryz.pinned (.plain (OpenSpec.upto flacReadsSpec)) flacReadsUptoCard

/-- THE SECOND FORM's CARD OF 'diacriticlaw14.FieldTwice'. -/
def fieldTwiceUptoCard : Claim7 := { stood := { row := fieldTwiceUptoRow, standIns := [], harness := (true, "e654c13b6c1bb9bb6be983360dbbdfe4d6e76d00b176620556b1a691de548ada"), looks := false }, kinds := [], alts := [], laidByText := true, laidKinds := [.data, .data, .pinned], laidTests := true, laidLooks := .later }
def FieldTwiceUptoCardSaid : Prop := Claim7.holds Tryz.pinned (.plain (OpenSpec.upto fieldTwiceSpec)) fieldTwiceUptoCard

/-- THE SECOND FORM's CARD OF 'diacriticlaw20.OggPrints'. -/
def oggPrintsUptoCard : Claim7 := { stood := { row := oggPrintsUptoRow, standIns := [], harness := (true, "e654c13b6c1bb9bb6be983360dbbdfe4d6e76d00b176620556b1a691de548ada"), looks := false }, kinds := [], alts := [], laidByText := true, laidKinds := [.data, .data, .pinned], laidTests := true, laidLooks := .later }
def OggPrintsUptoCardSaid : Prop := Claim7.holds Tryz.pinned (.plain (OpenSpec.upto oggPrintsSpec)) oggPrintsUptoCard

/-- THE SECOND FORM's CARD OF 'diacriticlaw20.OggTwice'. -/
def oggTwiceUptoCard : Claim7 := { stood := { row := oggTwiceUptoRow, standIns := [], harness := (true, "e654c13b6c1bb9bb6be983360dbbdfe4d6e76d00b176620556b1a691de548ada"), looks := false }, kinds := [], alts := [], laidByText := true, laidKinds := [.data, .data, .pinned], laidTests := true, laidLooks := .later }
def OggTwiceUptoCardSaid : Prop := Claim7.holds Tryz.pinned (.plain (OpenSpec.upto oggTwiceSpec)) oggTwiceUptoCard

/-- THE SECOND FORM's CARD OF 'diacriticlaw20.OggSums'. -/
def oggSumsUptoCard : Claim7 := { stood := { row := oggSumsUptoRow, standIns := [], harness := (true, "e654c13b6c1bb9bb6be983360dbbdfe4d6e76d00b176620556b1a691de548ada"), looks := false }, kinds := [], alts := [], laidByText := true, laidKinds := [.data, .data, .pinned], laidTests := true, laidLooks := .later }
def OggSumsUptoCardSaid : Prop := Claim7.holds Tryz.pinned (.plain (OpenSpec.upto oggSumsSpec)) oggSumsUptoCard
end Rows
end Go.Proofs.YtmfjmgjhfplijaaGreatDoor
