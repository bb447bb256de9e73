/- The closed facts of CommentNames's row and card. -/
import Derived.Test.YtmpndnebjahdjaaGreatDoorFr
import Derived.Test.YtmpndnebjahdjaaGreatDoorCards
namespace Go.Proofs.YtmpndnebjahdjaaGreatDoor.commentNames
open Go.ChangeShapes Go.WideShapes Go.ChangeAt Go.RowKit

theorem k_named : Tryz.prog.funcNamed Rows.commentNamesRow.func = some 6 := by kernel_rfl
theorem k_joined : joinedFacts Tryz.prog 6 Tryz.f6 Rows.commentNamesSpec Rows.commentNamesRow = true := by kernel_rfl
theorem k_wrap : Tryz.f6.isWrapper Tryz.prog Rows.commentNamesRow.wrapper Rows.commentNamesRow.mainSum := by
  unfold Func.isWrapper; first | (rw [if_pos (by decide +kernel)]; kernel_rfl) | (rw [if_neg (by decide +kernel)]; exact ⟨rfl, rfl⟩)
theorem k_wf : Rows.commentNamesRow.wfByText (OpenSpec.ofChange Rows.commentNamesSpec) = true := by kernel_rfl
theorem k_goes : false = Rows.commentNamesRow.goesBy Tryz.prog := by kernel_rfl
theorem k_stand : ([37, 9].all fun u => !Tryz.prog.wantsStandIn u) = true := by kernel_rfl
end Go.Proofs.YtmpndnebjahdjaaGreatDoor.commentNames
