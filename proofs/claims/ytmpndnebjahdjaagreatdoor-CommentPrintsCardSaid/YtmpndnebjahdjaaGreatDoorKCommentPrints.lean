/- The closed facts of CommentPrints's row and card. -/
import Derived.Test.YtmpndnebjahdjaaGreatDoorFr
import Derived.Test.YtmpndnebjahdjaaGreatDoorCards
namespace Go.Proofs.YtmpndnebjahdjaaGreatDoor.commentPrints
open Go.ChangeShapes Go.WideShapes Go.ChangeAt Go.RowKit

theorem k_named : Tryz.prog.funcNamed Rows.commentPrintsRow.func = some 4 := by kernel_rfl
theorem k_joined : joinedFacts Tryz.prog 4 Tryz.f4 Rows.commentPrintsSpec Rows.commentPrintsRow = true := by kernel_rfl
theorem k_wrap : Tryz.f4.isWrapper Tryz.prog Rows.commentPrintsRow.wrapper Rows.commentPrintsRow.mainSum := by
  unfold Func.isWrapper; first | (rw [if_pos (by decide +kernel)]; kernel_rfl) | (rw [if_neg (by decide +kernel)]; exact ⟨rfl, rfl⟩)
theorem k_wf : Rows.commentPrintsRow.wfByText (OpenSpec.ofChange Rows.commentPrintsSpec) = true := by kernel_rfl
theorem k_goes : false = Rows.commentPrintsRow.goesBy Tryz.prog := by kernel_rfl
theorem k_stand : ([37, 4, 3, 4].all fun u => !Tryz.prog.wantsStandIn u) = true := by kernel_rfl
end Go.Proofs.YtmpndnebjahdjaaGreatDoor.commentPrints
