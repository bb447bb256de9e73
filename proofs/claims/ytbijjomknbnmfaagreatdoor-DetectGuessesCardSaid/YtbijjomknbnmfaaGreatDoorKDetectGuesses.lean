/- The closed facts of DetectGuesses's row and card. -/
import Derived.Test.YtbijjomknbnmfaaGreatDoorFr
import Derived.Test.YtbijjomknbnmfaaGreatDoorCards
namespace Go.Proofs.YtbijjomknbnmfaaGreatDoor.detectGuesses
open Go.ChangeShapes Go.WideShapes Go.ChangeAt Go.RowKit

theorem k_named : Tryz.prog.funcNamed Rows.detectGuessesRow.func = some 7 := by kernel_rfl
theorem k_joined : joinedFacts Tryz.prog 7 Tryz.f7 Rows.detectGuessesSpec Rows.detectGuessesRow = true := by kernel_rfl
theorem k_wrap : Tryz.f7.isWrapper Tryz.prog Rows.detectGuessesRow.wrapper Rows.detectGuessesRow.mainSum := by
  unfold Func.isWrapper; first | (rw [if_pos (by decide +kernel)]; kernel_rfl) | (rw [if_neg (by decide +kernel)]; exact ⟨rfl, rfl⟩)
theorem k_wf : Rows.detectGuessesRow.wfByText (OpenSpec.ofChange Rows.detectGuessesSpec) = true := by kernel_rfl
theorem k_goes : false = Rows.detectGuessesRow.goesBy Tryz.prog := by kernel_rfl
theorem k_stand : ([9, 39].all fun u => !Tryz.prog.wantsStandIn u) = true := by kernel_rfl
end Go.Proofs.YtbijjomknbnmfaaGreatDoor.detectGuesses
