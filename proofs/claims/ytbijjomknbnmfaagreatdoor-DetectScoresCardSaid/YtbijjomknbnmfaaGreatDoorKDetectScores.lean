/- The closed facts of DetectScores's row and card. -/
import Derived.Test.YtbijjomknbnmfaaGreatDoorFr
import Derived.Test.YtbijjomknbnmfaaGreatDoorCards
namespace Go.Proofs.YtbijjomknbnmfaaGreatDoor.detectScores
open Go.ChangeShapes Go.WideShapes Go.ChangeAt Go.RowKit

theorem k_named : Tryz.prog.funcNamed Rows.detectScoresRow.func = some 6 := by kernel_rfl
theorem k_joined : joinedFacts Tryz.prog 6 Tryz.f6 Rows.detectScoresSpec Rows.detectScoresRow = true := by kernel_rfl
theorem k_wrap : Tryz.f6.isWrapper Tryz.prog Rows.detectScoresRow.wrapper Rows.detectScoresRow.mainSum := by
  unfold Func.isWrapper; first | (rw [if_pos (by decide +kernel)]; kernel_rfl) | (rw [if_neg (by decide +kernel)]; exact ⟨rfl, rfl⟩)
theorem k_wf : Rows.detectScoresRow.wfByText (OpenSpec.ofChange Rows.detectScoresSpec) = true := by kernel_rfl
theorem k_goes : false = Rows.detectScoresRow.goesBy Tryz.prog := by kernel_rfl
theorem k_stand : ([3, 9].all fun u => !Tryz.prog.wantsStandIn u) = true := by kernel_rfl
end Go.Proofs.YtbijjomknbnmfaaGreatDoor.detectScores
