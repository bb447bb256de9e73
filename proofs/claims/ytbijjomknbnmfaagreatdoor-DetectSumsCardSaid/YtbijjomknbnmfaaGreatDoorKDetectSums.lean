/- The closed facts of DetectSums's row and card. -/
import Derived.Test.YtbijjomknbnmfaaGreatDoorFr
import Derived.Test.YtbijjomknbnmfaaGreatDoorCards
namespace Go.Proofs.YtbijjomknbnmfaaGreatDoor.detectSums
open Go.ChangeShapes Go.WideShapes Go.ChangeAt Go.RowKit

theorem k_named : Tryz.prog.funcNamed Rows.detectSumsRow.func = some 8 := by kernel_rfl
theorem k_joined : joinedFacts Tryz.prog 8 Tryz.f8 Rows.detectSumsSpec Rows.detectSumsRow = true := by kernel_rfl
theorem k_wrap : Tryz.f8.isWrapper Tryz.prog Rows.detectSumsRow.wrapper Rows.detectSumsRow.mainSum := by
  unfold Func.isWrapper; first | (rw [if_pos (by decide +kernel)]; kernel_rfl) | (rw [if_neg (by decide +kernel)]; exact ⟨rfl, rfl⟩)
theorem k_wf : Rows.detectSumsRow.wfByText (OpenSpec.ofChange Rows.detectSumsSpec) = true := by kernel_rfl
theorem k_goes : false = Rows.detectSumsRow.goesBy Tryz.prog := by kernel_rfl
theorem k_stand : ([3, 9, 9].all fun u => !Tryz.prog.wantsStandIn u) = true := by kernel_rfl
end Go.Proofs.YtbijjomknbnmfaaGreatDoor.detectSums
