/- The closed facts of CommentTwice's row and card. -/
import Derived.Test.YtogknbpmgflpgaaGreatDoorFr
import Derived.Test.YtogknbpmgflpgaaGreatDoorCards
namespace Go.Proofs.YtogknbpmgflpgaaGreatDoor.commentTwice
open Go.ChangeShapes Go.WideShapes Go.ChangeAt Go.RowKit

theorem k_named : Tryz.prog.funcNamed Rows.commentTwiceRow.func = some 3 := by kernel_rfl
theorem k_joined : joinedFacts Tryz.prog 3 Tryz.f3 Rows.commentTwiceSpec Rows.commentTwiceRow = true := by kernel_rfl
theorem k_wrap : Tryz.f3.isWrapper Tryz.prog Rows.commentTwiceRow.wrapper Rows.commentTwiceRow.mainSum := by
  unfold Func.isWrapper; first | (rw [if_pos (by decide +kernel)]; kernel_rfl) | (rw [if_neg (by decide +kernel)]; exact ⟨rfl, rfl⟩)
theorem k_wf : Rows.commentTwiceRow.wfByText (OpenSpec.ofChange Rows.commentTwiceSpec) = true := by kernel_rfl
theorem k_goes : false = Rows.commentTwiceRow.goesBy Tryz.prog := by kernel_rfl
theorem k_stand : ([9, 4, 3, 4].all fun u => !Tryz.prog.wantsStandIn u) = true := by kernel_rfl
end Go.Proofs.YtogknbpmgflpgaaGreatDoor.commentTwice
