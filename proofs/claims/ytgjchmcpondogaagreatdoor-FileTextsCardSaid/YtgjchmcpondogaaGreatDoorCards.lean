/-
  DERIVED. GIVEN WITH THE SEED: THE CARDS: each row of YtgjchmcpondogaaGreatDoorRows.lean that lists a variable, with what it lists TIED to the program's text (the seventh form; the later family's looks); each row that meets fmt, with fmt's text TOLD by the authors' own Lean function (tested against real Go, not proved from fmt's source: count such statements apart). THE CARD IS WHAT COUNTS. Prove the row's statement (the work); the ties are given (YtgjchmcpondogaaGreatDoorTie.lean); close each card by the builder's one call (the guide's Derived/Test/ToyasCard.lean, 'card_holds'). Laid BY PROGRAM, IN A SANDBOX (cutbox-door.mjs). By AI agents, Wed Nov 11 2026. No macro, syntax, notation, axiom, sorry.
-/
import Derived.Test.YtgjchmcpondogaaGreatDoorRows
import GoSem.ClaimSeven
namespace Go.Proofs.YtgjchmcpondogaaGreatDoor
namespace Rows

/-- THE TIED CARD OF 'diacritictop.TopTexts'. -/
def topTextsCard : Claim7 := { stood := { row := topTextsRow, standIns := [], harness := (true, "a25281d82892ce6d2dc164bec197a55e0debff8f9ed33338ec3a6781f5bb9e86"), looks := false }, kinds := [], alts := [], laidByText := true, laidKinds := [.data, .data, .data, .pinned], laidTests := true, laidLooks := .later }
def TopTextsCardSaid : Prop := Claim7.holds Tryz.pinned (.plain (OpenSpec.ofChange topTextsSpec)) topTextsCard

/-- THE TIED CARD OF 'diacriticlaw28.FileTexts'. -/
def fileTextsCard : Claim7 := { stood := { row := fileTextsRow, standIns := [], harness := (true, "a25281d82892ce6d2dc164bec197a55e0debff8f9ed33338ec3a6781f5bb9e86"), looks := false }, kinds := [], alts := [], laidByText := true, laidKinds := [.data, .data, .data, .pinned], laidTests := true, laidLooks := .later }
def FileTextsCardSaid : Prop := Claim7.holds Tryz.pinned (.plain (OpenSpec.ofChange fileTextsSpec)) fileTextsCard

/-- THE TIED CARD OF 'diacritictop.TopSheets'. -/
def topSheetsCard : Claim7 := { stood := { row := topSheetsRow, standIns := [], harness := (true, "a25281d82892ce6d2dc164bec197a55e0debff8f9ed33338ec3a6781f5bb9e86"), looks := false }, kinds := [], alts := [], laidByText := true, laidKinds := [.data, .data, .data, .pinned], laidTests := true, laidLooks := .later }
def TopSheetsCardSaid : Prop := Claim7.holds Tryz.pinned (.plain (OpenSpec.ofChange topSheetsSpec)) topSheetsCard

/-- THE SECOND FORM's CARD OF 'diacritictop.TopTexts'. -/
def topTextsUptoCard : Claim7 := { stood := { row := topTextsUptoRow, standIns := [], harness := (true, "a25281d82892ce6d2dc164bec197a55e0debff8f9ed33338ec3a6781f5bb9e86"), looks := false }, kinds := [], alts := [], laidByText := true, laidKinds := [.data, .data, .data, .pinned], laidTests := true, laidLooks := .later }
def TopTextsUptoCardSaid : Prop := Claim7.holds Tryz.pinned (.plain (OpenSpec.upto topTextsSpec)) topTextsUptoCard

/-- THE SECOND FORM's CARD OF 'diacriticlaw28.FileTexts'. -/
def fileTextsUptoCard : Claim7 := { stood := { row := fileTextsUptoRow, standIns := [], harness := (true, "a25281d82892ce6d2dc164bec197a55e0debff8f9ed33338ec3a6781f5bb9e86"), looks := false }, kinds := [], alts := [], laidByText := true, laidKinds := [.data, .data, .data, .pinned], laidTests := true, laidLooks := .later }
def FileTextsUptoCardSaid : Prop := Claim7.holds Tryz.pinned (.plain (OpenSpec.upto fileTextsSpec)) fileTextsUptoCard

/-- THE SECOND FORM's CARD OF 'diacritictop.TopSheets'. -/
def topSheetsUptoCard : Claim7 := { stood := { row := topSheetsUptoRow, standIns := [], harness := (true, "a25281d82892ce6d2dc164bec197a55e0debff8f9ed33338ec3a6781f5bb9e86"), looks := false }, kinds := [], alts := [], laidByText := true, laidKinds := [.data, .data, .data, .pinned], laidTests := true, laidLooks := .later }
def TopSheetsUptoCardSaid : Prop := Claim7.holds Tryz.pinned (.plain (OpenSpec.upto topSheetsSpec)) topSheetsUptoCard
end Rows
end Go.Proofs.YtgjchmcpondogaaGreatDoor
