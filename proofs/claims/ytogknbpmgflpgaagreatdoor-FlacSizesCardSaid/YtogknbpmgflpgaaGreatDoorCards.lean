/-
  DERIVED. GIVEN WITH THE SEED: THE CARDS: each row of YtogknbpmgflpgaaGreatDoorRows.lean that lists a variable, with what it lists TIED to the program's text (the seventh form; the later family's looks); each row that meets fmt, with fmt's text TOLD by the authors' own Lean function (tested against real Go, not proved from fmt's source: count such statements apart). THE CARD IS WHAT COUNTS. Prove the row's statement (the work); the ties are given (YtogknbpmgflpgaaGreatDoorTie.lean); close each card by the builder's one call (the guide's Derived/Test/ToyasCard.lean, 'card_holds'). Laid BY PROGRAM, IN A SANDBOX (cutbox-door.mjs). By AI agents, Wed Nov 11 2026. No macro, syntax, notation, axiom, sorry.
-/
import Derived.Test.YtogknbpmgflpgaaGreatDoorRows
import GoSem.ClaimSeven
namespace Go.Proofs.YtogknbpmgflpgaaGreatDoor
namespace Rows

/-- THE TIED CARD OF 'diacriticlaw19.CommentTwice'. -/
def commentTwiceCard : Claim7 := { stood := { row := commentTwiceRow, standIns := [], harness := (true, "da0da52d365013f5727b27bc7d24202a53cd832f8fb114b6bbe29fde65cd7d2a"), looks := false }, kinds := [], alts := [], laidByText := true, laidKinds := [.data, .data, .pinned], laidTests := true, laidLooks := .later }
def CommentTwiceCardSaid : Prop := Claim7.holds Tryz.pinned (.plain (OpenSpec.ofChange commentTwiceSpec)) commentTwiceCard

/-- THE TIED CARD OF 'diacriticlaw21.FlacReads'. -/
def flacReadsCard : Claim7 := { stood := { row := flacReadsRow, standIns := [], harness := (true, "da0da52d365013f5727b27bc7d24202a53cd832f8fb114b6bbe29fde65cd7d2a"), looks := false }, kinds := [], alts := [], laidByText := true, laidKinds := [.data, .data, .pinned], laidTests := true, laidLooks := .later }
def FlacReadsCardSaid : Prop := Claim7.holds Tryz.pinned (.plain (OpenSpec.ofChange flacReadsSpec)) flacReadsCard

/-- THE TIED CARD OF 'diacriticlaw21.FlacPrints'. -/
def flacPrintsCard : Claim7 := { stood := { row := flacPrintsRow, standIns := [], harness := (true, "da0da52d365013f5727b27bc7d24202a53cd832f8fb114b6bbe29fde65cd7d2a"), looks := false }, kinds := [], alts := [], laidByText := true, laidKinds := [.data, .data, .pinned], laidTests := true, laidLooks := .later }
def FlacPrintsCardSaid : Prop := Claim7.holds Tryz.pinned (.plain (OpenSpec.ofChange flacPrintsSpec)) flacPrintsCard

/-- THE TIED CARD OF 'diacriticlaw21.FlacTwice'. -/
def flacTwiceCard : Claim7 := { stood := { row := flacTwiceRow, standIns := [], harness := (true, "da0da52d365013f5727b27bc7d24202a53cd832f8fb114b6bbe29fde65cd7d2a"), looks := false }, kinds := [], alts := [], laidByText := true, laidKinds := [.data, .data, .pinned], laidTests := true, laidLooks := .later }
def FlacTwiceCardSaid : Prop := Claim7.holds Tryz.pinned (.plain (OpenSpec.ofChange flacTwiceSpec)) flacTwiceCard

/-- THE TIED CARD OF 'diacriticlaw21.FlacSizes'. -/
def flacSizesCard : Claim7 := { stood := { row := flacSizesRow, standIns := [], harness := (true, "da0da52d365013f5727b27bc7d24202a53cd832f8fb114b6bbe29fde65cd7d2a"), looks := false }, kinds := [], alts := [], laidByText := true, laidKinds := [.data, .data, .pinned], laidTests := true, laidLooks := .later }
def FlacSizesCardSaid : Prop := Claim7.holds Tryz.pinned (.plain (OpenSpec.ofChange flacSizesSpec)) flacSizesCard

/-- THE SECOND FORM's CARD OF 'diacriticlaw19.CommentTwice'. -/
def commentTwiceUptoCard : Claim7 := { stood := { row := commentTwiceUptoRow, standIns := [], harness := (true, "da0da52d365013f5727b27bc7d24202a53cd832f8fb114b6bbe29fde65cd7d2a"), looks := false }, kinds := [], alts := [], laidByText := true, laidKinds := [.data, .data, .pinned], laidTests := true, laidLooks := .later }
def CommentTwiceUptoCardSaid : Prop := Claim7.holds Tryz.pinned (.plain (OpenSpec.upto commentTwiceSpec)) commentTwiceUptoCard

/-- THE SECOND FORM's CARD OF 'diacriticlaw21.FlacReads'. -/
def flacReadsUptoCard : Claim7 := { stood := { row := flacReadsUptoRow, standIns := [], harness := (true, "da0da52d365013f5727b27bc7d24202a53cd832f8fb114b6bbe29fde65cd7d2a"), looks := false }, kinds := [], alts := [], laidByText := true, laidKinds := [.data, .data, .pinned], laidTests := true, laidLooks := .later }
def FlacReadsUptoCardSaid : Prop := Claim7.holds Tryz.pinned (.plain (OpenSpec.upto flacReadsSpec)) flacReadsUptoCard

/-- THE SECOND FORM's CARD OF 'diacriticlaw21.FlacPrints'. -/
def flacPrintsUptoCard : Claim7 := { stood := { row := flacPrintsUptoRow, standIns := [], harness := (true, "da0da52d365013f5727b27bc7d24202a53cd832f8fb114b6bbe29fde65cd7d2a"), looks := false }, kinds := [], alts := [], laidByText := true, laidKinds := [.data, .data, .pinned], laidTests := true, laidLooks := .later }
def FlacPrintsUptoCardSaid : Prop := Claim7.holds Tryz.pinned (.plain (OpenSpec.upto flacPrintsSpec)) flacPrintsUptoCard

/-- THE SECOND FORM's CARD OF 'diacriticlaw21.FlacTwice'. -/
def flacTwiceUptoCard : Claim7 := { stood := { row := flacTwiceUptoRow, standIns := [], harness := (true, "da0da52d365013f5727b27bc7d24202a53cd832f8fb114b6bbe29fde65cd7d2a"), looks := false }, kinds := [], alts := [], laidByText := true, laidKinds := [.data, .data, .pinned], laidTests := true, laidLooks := .later }
def FlacTwiceUptoCardSaid : Prop := Claim7.holds Tryz.pinned (.plain (OpenSpec.upto flacTwiceSpec)) flacTwiceUptoCard

/-- THE SECOND FORM's CARD OF 'diacriticlaw21.FlacSizes'. -/
def flacSizesUptoCard : Claim7 := { stood := { row := flacSizesUptoRow, standIns := [], harness := (true, "da0da52d365013f5727b27bc7d24202a53cd832f8fb114b6bbe29fde65cd7d2a"), looks := false }, kinds := [], alts := [], laidByText := true, laidKinds := [.data, .data, .pinned], laidTests := true, laidLooks := .later }
def FlacSizesUptoCardSaid : Prop := Claim7.holds Tryz.pinned (.plain (OpenSpec.upto flacSizesSpec)) flacSizesUptoCard
end Rows
end Go.Proofs.YtogknbpmgflpgaaGreatDoor
