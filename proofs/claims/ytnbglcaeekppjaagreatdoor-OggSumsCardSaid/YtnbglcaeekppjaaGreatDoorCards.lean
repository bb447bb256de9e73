/-
  DERIVED. GIVEN WITH THE SEED: THE CARDS: each row of YtnbglcaeekppjaaGreatDoorRows.lean that lists a variable, with what it lists TIED to the program's text (the seventh form; the later family's looks); each row that meets fmt, with fmt's text TOLD by the authors' own Lean function (tested against real Go, not proved from fmt's source: count such statements apart). THE CARD IS WHAT COUNTS. Prove the row's statement (the work); the ties are given (YtnbglcaeekppjaaGreatDoorTie.lean); close each card by the builder's one call (the guide's Derived/Test/ToyasCard.lean, 'card_holds'). Laid BY PROGRAM, IN A SANDBOX (cutbox-door.mjs). By AI agents, Wed Nov 11 2026. No macro, syntax, notation, axiom, sorry.
-/
import Derived.Test.YtnbglcaeekppjaaGreatDoorRows
import GoSem.ClaimSeven
namespace Go.Proofs.YtnbglcaeekppjaaGreatDoor
namespace Rows

/-- THE TIED CARD OF 'diacriticlaw20.OggPrints'. -/
def oggPrintsCard : Claim7 := { stood := { row := oggPrintsRow, standIns := [], harness := (true, "55ce48a38eb32c2ac6b3e60aa5d8fec30e018b08415418610efe78407348b2e3"), looks := false }, kinds := [], alts := [], laidByText := true, laidKinds := [.data, .data, .pinned], laidTests := true, laidLooks := .later }
def OggPrintsCardSaid : Prop := Claim7.holds Tryz.pinned (.plain (OpenSpec.ofChange oggPrintsSpec)) oggPrintsCard

/-- THE TIED CARD OF 'diacriticlaw20.OggTwice'. -/
def oggTwiceCard : Claim7 := { stood := { row := oggTwiceRow, standIns := [], harness := (true, "55ce48a38eb32c2ac6b3e60aa5d8fec30e018b08415418610efe78407348b2e3"), looks := false }, kinds := [], alts := [], laidByText := true, laidKinds := [.data, .data, .pinned], laidTests := true, laidLooks := .later }
def OggTwiceCardSaid : Prop := Claim7.holds Tryz.pinned (.plain (OpenSpec.ofChange oggTwiceSpec)) oggTwiceCard

/-- THE TIED CARD OF 'diacriticlaw20.OggSums'. -/
def oggSumsCard : Claim7 := { stood := { row := oggSumsRow, standIns := [], harness := (true, "55ce48a38eb32c2ac6b3e60aa5d8fec30e018b08415418610efe78407348b2e3"), looks := false }, kinds := [], alts := [], laidByText := true, laidKinds := [.data, .data, .pinned], laidTests := true, laidLooks := .later }
def OggSumsCardSaid : Prop := Claim7.holds Tryz.pinned (.plain (OpenSpec.ofChange oggSumsSpec)) oggSumsCard

/-- THE SECOND FORM's CARD OF 'diacriticlaw20.OggPrints'. -/
def oggPrintsUptoCard : Claim7 := { stood := { row := oggPrintsUptoRow, standIns := [], harness := (true, "55ce48a38eb32c2ac6b3e60aa5d8fec30e018b08415418610efe78407348b2e3"), looks := false }, kinds := [], alts := [], laidByText := true, laidKinds := [.data, .data, .pinned], laidTests := true, laidLooks := .later }
def OggPrintsUptoCardSaid : Prop := Claim7.holds Tryz.pinned (.plain (OpenSpec.upto oggPrintsSpec)) oggPrintsUptoCard

/-- THE SECOND FORM's CARD OF 'diacriticlaw20.OggTwice'. -/
def oggTwiceUptoCard : Claim7 := { stood := { row := oggTwiceUptoRow, standIns := [], harness := (true, "55ce48a38eb32c2ac6b3e60aa5d8fec30e018b08415418610efe78407348b2e3"), looks := false }, kinds := [], alts := [], laidByText := true, laidKinds := [.data, .data, .pinned], laidTests := true, laidLooks := .later }
def OggTwiceUptoCardSaid : Prop := Claim7.holds Tryz.pinned (.plain (OpenSpec.upto oggTwiceSpec)) oggTwiceUptoCard

/-- THE SECOND FORM's CARD OF 'diacriticlaw20.OggSums'. -/
def oggSumsUptoCard : Claim7 := { stood := { row := oggSumsUptoRow, standIns := [], harness := (true, "55ce48a38eb32c2ac6b3e60aa5d8fec30e018b08415418610efe78407348b2e3"), looks := false }, kinds := [], alts := [], laidByText := true, laidKinds := [.data, .data, .pinned], laidTests := true, laidLooks := .later }
def OggSumsUptoCardSaid : Prop := Claim7.holds Tryz.pinned (.plain (OpenSpec.upto oggSumsSpec)) oggSumsUptoCard
end Rows
end Go.Proofs.YtnbglcaeekppjaaGreatDoor
