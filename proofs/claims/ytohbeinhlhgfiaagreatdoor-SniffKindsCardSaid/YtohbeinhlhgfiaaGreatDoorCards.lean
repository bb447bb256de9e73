/-
  DERIVED. GIVEN WITH THE SEED: THE CARDS: each row of YtohbeinhlhgfiaaGreatDoorRows.lean that lists a variable, with what it lists TIED to the program's text (the seventh form; the later family's looks); each row that meets fmt, with fmt's text TOLD by the authors' own Lean function (tested against real Go, not proved from fmt's source: count such statements apart). THE CARD IS WHAT COUNTS. Prove the row's statement (the work); the ties are given (YtohbeinhlhgfiaaGreatDoorTie.lean); close each card by the builder's one call (the guide's Derived/Test/ToyasCard.lean, 'card_holds'). Laid BY PROGRAM, IN A SANDBOX (cutbox-door.mjs). By AI agents, Wed Nov 11 2026. No macro, syntax, notation, axiom, sorry.
-/
import Derived.Test.YtohbeinhlhgfiaaGreatDoorRows
import GoSem.ClaimSeven
namespace Go.Proofs.YtohbeinhlhgfiaaGreatDoor
namespace Rows

/-- THE TIED CARD OF 'diacriticlaw27.SniffKinds'. -/
def sniffKindsCard : Claim7 := { stood := { row := sniffKindsRow, standIns := [], harness := (true, "8a7d014ce4f87c1ac1ee5a88bec0ca7afd9571329be96aeea26af9f423f774b2"), looks := false }, kinds := [], alts := [], laidByText := true, laidKinds := [.data, .data, .data, .pinned], laidTests := true, laidLooks := .later }
def SniffKindsCardSaid : Prop := Claim7.holds Tryz.pinned (.plain (OpenSpec.ofChange sniffKindsSpec)) sniffKindsCard

/-- THE TIED CARD OF 'diacriticlaw27.SniffMarks'. -/
def sniffMarksCard : Claim7 := { stood := { row := sniffMarksRow, standIns := [], harness := (true, "8a7d014ce4f87c1ac1ee5a88bec0ca7afd9571329be96aeea26af9f423f774b2"), looks := false }, kinds := [], alts := [], laidByText := true, laidKinds := [.data, .data, .data, .pinned], laidTests := true, laidLooks := .later }
def SniffMarksCardSaid : Prop := Claim7.holds Tryz.pinned (.plain (OpenSpec.ofChange sniffMarksSpec)) sniffMarksCard

/-- THE TIED CARD OF 'diacriticlaw20.OggPrints'. -/
def oggPrintsCard : Claim7 := { stood := { row := oggPrintsRow, standIns := [], harness := (true, "8a7d014ce4f87c1ac1ee5a88bec0ca7afd9571329be96aeea26af9f423f774b2"), looks := false }, kinds := [], alts := [], laidByText := true, laidKinds := [.data, .data, .pinned], laidTests := true, laidLooks := .later }
def OggPrintsCardSaid : Prop := Claim7.holds Tryz.pinned (.plain (OpenSpec.ofChange oggPrintsSpec)) oggPrintsCard

/-- THE SECOND FORM's CARD OF 'diacriticlaw27.SniffKinds'. -/
def sniffKindsUptoCard : Claim7 := { stood := { row := sniffKindsUptoRow, standIns := [], harness := (true, "8a7d014ce4f87c1ac1ee5a88bec0ca7afd9571329be96aeea26af9f423f774b2"), looks := false }, kinds := [], alts := [], laidByText := true, laidKinds := [.data, .data, .data, .pinned], laidTests := true, laidLooks := .later }
def SniffKindsUptoCardSaid : Prop := Claim7.holds Tryz.pinned (.plain (OpenSpec.upto sniffKindsSpec)) sniffKindsUptoCard

/-- THE SECOND FORM's CARD OF 'diacriticlaw27.SniffMarks'. -/
def sniffMarksUptoCard : Claim7 := { stood := { row := sniffMarksUptoRow, standIns := [], harness := (true, "8a7d014ce4f87c1ac1ee5a88bec0ca7afd9571329be96aeea26af9f423f774b2"), looks := false }, kinds := [], alts := [], laidByText := true, laidKinds := [.data, .data, .data, .pinned], laidTests := true, laidLooks := .later }
def SniffMarksUptoCardSaid : Prop := Claim7.holds Tryz.pinned (.plain (OpenSpec.upto sniffMarksSpec)) sniffMarksUptoCard

/-- THE SECOND FORM's CARD OF 'diacriticlaw20.OggPrints'. -/
def oggPrintsUptoCard : Claim7 := { stood := { row := oggPrintsUptoRow, standIns := [], harness := (true, "8a7d014ce4f87c1ac1ee5a88bec0ca7afd9571329be96aeea26af9f423f774b2"), looks := false }, kinds := [], alts := [], laidByText := true, laidKinds := [.data, .data, .pinned], laidTests := true, laidLooks := .later }
def OggPrintsUptoCardSaid : Prop := Claim7.holds Tryz.pinned (.plain (OpenSpec.upto oggPrintsSpec)) oggPrintsUptoCard
end Rows
end Go.Proofs.YtohbeinhlhgfiaaGreatDoor
