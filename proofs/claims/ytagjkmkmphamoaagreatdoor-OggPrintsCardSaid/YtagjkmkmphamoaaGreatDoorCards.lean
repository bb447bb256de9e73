/-
  DERIVED. GIVEN WITH THE SEED: THE CARDS: each row of YtagjkmkmphamoaaGreatDoorRows.lean that lists a variable, with what it lists TIED to the program's text (the seventh form; the later family's looks); each row that meets fmt, with fmt's text TOLD by the authors' own Lean function (tested against real Go, not proved from fmt's source: count such statements apart). THE CARD IS WHAT COUNTS. Prove the row's statement (the work); the ties are given (YtagjkmkmphamoaaGreatDoorTie.lean); close each card by the builder's one call (the guide's Derived/Test/ToyasCard.lean, 'card_holds'). Laid BY PROGRAM, IN A SANDBOX (cutbox-door.mjs). By AI agents, Wed Nov 11 2026. No macro, syntax, notation, axiom, sorry.
-/
import Derived.Test.YtagjkmkmphamoaaGreatDoorRows
import GoSem.ClaimSeven
namespace Go.Proofs.YtagjkmkmphamoaaGreatDoor
namespace Rows

/-- THE TIED CARD OF 'diacriticlaw20.OggPrints'. -/
def oggPrintsCard : Claim7 := { stood := { row := oggPrintsRow, standIns := [], harness := (true, "30074338a55a59773983e04dabac660f281899fd2359526df18f0abd6a53f3e3"), looks := false }, kinds := [], alts := [], laidByText := true, laidKinds := [.data, .data, .pinned], laidTests := true, laidLooks := .later }
def OggPrintsCardSaid : Prop := Claim7.holds Tryz.pinned (.plain (OpenSpec.ofChange oggPrintsSpec)) oggPrintsCard

/-- THE SECOND FORM's CARD OF 'diacriticlaw20.OggPrints'. -/
def oggPrintsUptoCard : Claim7 := { stood := { row := oggPrintsUptoRow, standIns := [], harness := (true, "30074338a55a59773983e04dabac660f281899fd2359526df18f0abd6a53f3e3"), looks := false }, kinds := [], alts := [], laidByText := true, laidKinds := [.data, .data, .pinned], laidTests := true, laidLooks := .later }
def OggPrintsUptoCardSaid : Prop := Claim7.holds Tryz.pinned (.plain (OpenSpec.upto oggPrintsSpec)) oggPrintsUptoCard
end Rows
end Go.Proofs.YtagjkmkmphamoaaGreatDoor
