/-
  DERIVED. GIVEN WITH THE SEED: THE CARDS: each row of YtndlekaahjccdaaGreatDoorRows.lean that lists a variable, with what it lists TIED to the program's text (the seventh form; the later family's looks); each row that meets fmt, with fmt's text TOLD by the authors' own Lean function (tested against real Go, not proved from fmt's source: count such statements apart). THE CARD IS WHAT COUNTS. Prove the row's statement (the work); the ties are given (YtndlekaahjccdaaGreatDoorTie.lean); close each card by the builder's one call (the guide's Derived/Test/ToyasCard.lean, 'card_holds'). Laid BY PROGRAM, IN A SANDBOX (cutbox-door.mjs). By AI agents, Wed Nov 11 2026. No macro, syntax, notation, axiom, sorry.
-/
import Derived.Test.YtndlekaahjccdaaGreatDoorRows
import GoSem.ClaimSeven
namespace Go.Proofs.YtndlekaahjccdaaGreatDoor
namespace Rows

/-- THE TIED CARD OF 'diacritictop.TopSheets'. -/
def topSheetsCard : Claim7 := { stood := { row := topSheetsRow, standIns := [], harness := (true, "d505ed57f664d20abfeeb6cdc329285da84041d572b0d1b7f43123ea17b5e22e"), looks := false }, kinds := [], alts := [], laidByText := true, laidKinds := [.data, .data, .data, .pinned], laidTests := true, laidLooks := .later }
def TopSheetsCardSaid : Prop := Claim7.holds Tryz.pinned (.plain (OpenSpec.ofChange topSheetsSpec)) topSheetsCard

/-- THE SECOND FORM's CARD OF 'diacritictop.TopSheets'. -/
def topSheetsUptoCard : Claim7 := { stood := { row := topSheetsUptoRow, standIns := [], harness := (true, "d505ed57f664d20abfeeb6cdc329285da84041d572b0d1b7f43123ea17b5e22e"), looks := false }, kinds := [], alts := [], laidByText := true, laidKinds := [.data, .data, .data, .pinned], laidTests := true, laidLooks := .later }
def TopSheetsUptoCardSaid : Prop := Claim7.holds Tryz.pinned (.plain (OpenSpec.upto topSheetsSpec)) topSheetsUptoCard
end Rows
end Go.Proofs.YtndlekaahjccdaaGreatDoor
