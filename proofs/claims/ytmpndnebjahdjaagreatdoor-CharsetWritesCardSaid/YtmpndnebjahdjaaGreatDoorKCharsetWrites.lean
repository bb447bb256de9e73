/- The closed facts of CharsetWrites's row and card. -/
import Derived.Test.YtmpndnebjahdjaaGreatDoorFr
import Derived.Test.YtmpndnebjahdjaaGreatDoorCards
namespace Go.Proofs.YtmpndnebjahdjaaGreatDoor.charsetWrites
open Go.ChangeShapes Go.WideShapes Go.ChangeAt Go.RowKit

theorem k_named : Tryz.prog.funcNamed Rows.charsetWritesRow.func = some 3 := by kernel_rfl
theorem k_joined : joinedFacts Tryz.prog 3 Tryz.f3 Rows.charsetWritesSpec Rows.charsetWritesRow = true := by kernel_rfl
theorem k_wrap : Tryz.f3.isWrapper Tryz.prog Rows.charsetWritesRow.wrapper Rows.charsetWritesRow.mainSum := by
  unfold Func.isWrapper; first | (rw [if_pos (by decide +kernel)]; kernel_rfl) | (rw [if_neg (by decide +kernel)]; exact ⟨rfl, rfl⟩)
theorem k_wf : Rows.charsetWritesRow.wfByText (OpenSpec.ofChange Rows.charsetWritesSpec) = true := by kernel_rfl
theorem k_goes : false = Rows.charsetWritesRow.goesBy Tryz.prog := by kernel_rfl
theorem k_stand : ([3, 9].all fun u => !Tryz.prog.wantsStandIn u) = true := by kernel_rfl
end Go.Proofs.YtmpndnebjahdjaaGreatDoor.charsetWrites
