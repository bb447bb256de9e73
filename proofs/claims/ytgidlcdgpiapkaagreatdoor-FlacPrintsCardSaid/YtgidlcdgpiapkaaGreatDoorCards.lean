/-
  DERIVED. GIVEN WITH THE SEED: THE CARDS: each row of YtgidlcdgpiapkaaGreatDoorRows.lean that lists a variable, with what it lists TIED to the program's text (the seventh form; the later family's looks); each row that meets fmt, with fmt's text TOLD by the authors' own Lean function (tested against real Go, not proved from fmt's source: count such statements apart). THE CARD IS WHAT COUNTS. Prove the row's statement (the work); the ties are given (YtgidlcdgpiapkaaGreatDoorTie.lean); close each card by the builder's one call (the guide's Derived/Test/ToyasCard.lean, 'card_holds'). Laid BY PROGRAM, IN A SANDBOX (cutbox-door.mjs). By AI agents, Wed Nov 11 2026. No macro, syntax, notation, axiom, sorry.
-/
import Derived.Test.YtgidlcdgpiapkaaGreatDoorRows
import GoSem.ClaimSeven
namespace Go.Proofs.YtgidlcdgpiapkaaGreatDoor
namespace Rows

/-- THE TIED CARD OF 'diacriticlaw21.FlacReads'. -/
def flacReadsCard : Claim7 := { stood := { row := flacReadsRow, standIns := [], harness := (true, "d66e087d7ec561f00fc8cef3989fa69cd04fcbf39931b1b2f8d266332b5abc8d"), looks := false }, kinds := [], alts := [], laidByText := true, laidKinds := [.data, .data, .pinned], laidTests := true, laidLooks := .later }
def FlacReadsCardSaid : Prop := Claim7.holds Tryz.pinned (.plain (OpenSpec.ofChange flacReadsSpec)) flacReadsCard

/-- THE TIED CARD OF 'diacriticlaw21.FlacPrints'. -/
def flacPrintsCard : Claim7 := { stood := { row := flacPrintsRow, standIns := [], harness := (true, "d66e087d7ec561f00fc8cef3989fa69cd04fcbf39931b1b2f8d266332b5abc8d"), looks := false }, kinds := [], alts := [], laidByText := true, laidKinds := [.data, .data, .pinned], laidTests := true, laidLooks := .later }
def FlacPrintsCardSaid : Prop := Claim7.holds Tryz.pinned (.plain (OpenSpec.ofChange flacPrintsSpec)) flacPrintsCard

/-- THE TIED CARD OF 'diacriticlaw21.FlacTwice'. -/
def flacTwiceCard : Claim7 := { stood := { row := flacTwiceRow, standIns := [], harness := (true, "d66e087d7ec561f00fc8cef3989fa69cd04fcbf39931b1b2f8d266332b5abc8d"), looks := false }, kinds := [], alts := [], laidByText := true, laidKinds := [.data, .data, .pinned], laidTests := true, laidLooks := .later }
def FlacTwiceCardSaid : Prop := Claim7.holds Tryz.pinned (.plain (OpenSpec.ofChange flacTwiceSpec)) flacTwiceCard

/-- THE TIED CARD OF 'diacriticlaw14.FieldTwice'. -/
def fieldTwiceCard : Claim7 := { stood := { row := fieldTwiceRow, standIns := [], harness := (true, "d66e087d7ec561f00fc8cef3989fa69cd04fcbf39931b1b2f8d266332b5abc8d"), looks := false }, kinds := [], alts := [], laidByText := true, laidKinds := [.data, .data, .pinned], laidTests := true, laidLooks := .later }
def FieldTwiceCardSaid : Prop := Claim7.holds Tryz.pinned (.plain (OpenSpec.ofChange fieldTwiceSpec)) fieldTwiceCard

/-- THE TIED CARD OF 'diacriticlaw20.OggPrints'. -/
def oggPrintsCard : Claim7 := { stood := { row := oggPrintsRow, standIns := [], harness := (true, "d66e087d7ec561f00fc8cef3989fa69cd04fcbf39931b1b2f8d266332b5abc8d"), looks := false }, kinds := [], alts := [], laidByText := true, laidKinds := [.data, .data, .pinned], laidTests := true, laidLooks := .later }
def OggPrintsCardSaid : Prop := Claim7.holds Tryz.pinned (.plain (OpenSpec.ofChange oggPrintsSpec)) oggPrintsCard

/-- THE TIED CARD OF 'diacriticlaw20.OggTwice'. -/
def oggTwiceCard : Claim7 := { stood := { row := oggTwiceRow, standIns := [], harness := (true, "d66e087d7ec561f00fc8cef3989fa69cd04fcbf39931b1b2f8d266332b5abc8d"), looks := false }, kinds := [], alts := [], laidByText := true, laidKinds := [.data, .data, .pinned], laidTests := true, laidLooks := .later }
def OggTwiceCardSaid : Prop := Claim7.holds Tryz.pinned (.plain (OpenSpec.ofChange oggTwiceSpec)) oggTwiceCard

/-- THE TIED CARD OF 'diacriticlaw20.OggSums'. -/
def oggSumsCard : Claim7 := { stood := { row := oggSumsRow, standIns := [], harness := (true, "d66e087d7ec561f00fc8cef3989fa69cd04fcbf39931b1b2f8d266332b5abc8d"), looks := false }, kinds := [], alts := [], laidByText := true, laidKinds := [.data, .data, .pinned], laidTests := true, laidLooks := .later }
def OggSumsCardSaid : Prop := Claim7.holds Tryz.pinned (.plain (OpenSpec.ofChange oggSumsSpec)) oggSumsCard

/-- THE SECOND FORM's CARD OF 'diacriticlaw21.FlacReads'. -/
def flacReadsUptoCard : Claim7 := { stood := { row := flacReadsUptoRow, standIns := [], harness := (true, "d66e087d7ec561f00fc8cef3989fa69cd04fcbf39931b1b2f8d266332b5abc8d"), looks := false }, kinds := [], alts := [], laidByText := true, laidKinds := [.data, .data, .pinned], laidTests := true, laidLooks := .later }
def FlacReadsUptoCardSaid : Prop := Claim7.holds Tryz.pinned (.plain (OpenSpec.upto flacReadsSpec)) flacReadsUptoCard

/-- THE SECOND FORM's CARD OF 'diacriticlaw21.FlacPrints'. -/
def flacPrintsUptoCard : Claim7 := { stood := { row := flacPrintsUptoRow, standIns := [], harness := (true, "d66e087d7ec561f00fc8cef3989fa69cd04fcbf39931b1b2f8d266332b5abc8d"), looks := false }, kinds := [], alts := [], laidByText := true, laidKinds := [.data, .data, .pinned], laidTests := true, laidLooks := .later }
def FlacPrintsUptoCardSaid : Prop := Claim7.holds Tryz.pinned (.plain (OpenSpec.upto flacPrintsSpec)) flacPrintsUptoCard

/-- THE SECOND FORM's CARD OF 'diacriticlaw21.FlacTwice'. -/
def flacTwiceUptoCard : Claim7 := { stood := { row := flacTwiceUptoRow, standIns := [], harness := (true, "d66e087d7ec561f00fc8cef3989fa69cd04fcbf39931b1b2f8d266332b5abc8d"), looks := false }, kinds := [], alts := [], laidByText := true, laidKinds := [.data, .data, .pinned], laidTests := true, laidLooks := .later }
def FlacTwiceUptoCardSaid : Prop := Claim7.holds Tryz.pinned (.plain (OpenSpec.upto flacTwiceSpec)) flacTwiceUptoCard

/-- THE SECOND FORM's CARD OF 'diacriticlaw14.FieldTwice'. -/
def fieldTwiceUptoCard : Claim7 := { stood := { row := fieldTwiceUptoRow, standIns := [], harness := (true, "d66e087d7ec561f00fc8cef3989fa69cd04fcbf39931b1b2f8d266332b5abc8d"), looks := false }, kinds := [], alts := [], laidByText := true, laidKinds := [.data, .data, .pinned], laidTests := true, laidLooks := .later }
def FieldTwiceUptoCardSaid : Prop := Claim7.holds Tryz.pinned (.plain (OpenSpec.upto fieldTwiceSpec)) fieldTwiceUptoCard

/-- THE SECOND FORM's CARD OF 'diacriticlaw20.OggPrints'. -/
def oggPrintsUptoCard : Claim7 := { stood := { row := oggPrintsUptoRow, standIns := [], harness := (true, "d66e087d7ec561f00fc8cef3989fa69cd04fcbf39931b1b2f8d266332b5abc8d"), looks := false }, kinds := [], alts := [], laidByText := true, laidKinds := [.data, .data, .pinned], laidTests := true, laidLooks := .later }
def OggPrintsUptoCardSaid : Prop := Claim7.holds Tryz.pinned (.plain (OpenSpec.upto oggPrintsSpec)) oggPrintsUptoCard

/-- THE SECOND FORM's CARD OF 'diacriticlaw20.OggTwice'. -/
def oggTwiceUptoCard : Claim7 := { stood := { row := oggTwiceUptoRow, standIns := [], harness := (true, "d66e087d7ec561f00fc8cef3989fa69cd04fcbf39931b1b2f8d266332b5abc8d"), looks := false }, kinds := [], alts := [], laidByText := true, laidKinds := [.data, .data, .pinned], laidTests := true, laidLooks := .later }
def OggTwiceUptoCardSaid : Prop := Claim7.holds Tryz.pinned (.plain (OpenSpec.upto oggTwiceSpec)) oggTwiceUptoCard

/-- THE SECOND FORM's CARD OF 'diacriticlaw20.OggSums'. -/
def oggSumsUptoCard : Claim7 := { stood := { row := oggSumsUptoRow, standIns := [], harness := (true, "d66e087d7ec561f00fc8cef3989fa69cd04fcbf39931b1b2f8d266332b5abc8d"), looks := false }, kinds := [], alts := [], laidByText := true, laidKinds := [.data, .data, .pinned], laidTests := true, laidLooks := .later }
def OggSumsUptoCardSaid : Prop := Claim7.holds Tryz.pinned (.plain (OpenSpec.upto oggSumsSpec)) oggSumsUptoCard
end Rows
end Go.Proofs.YtgidlcdgpiapkaaGreatDoor
