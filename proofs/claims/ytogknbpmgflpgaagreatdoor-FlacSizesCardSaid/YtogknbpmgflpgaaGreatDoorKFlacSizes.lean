/- The closed facts of FlacSizes's row and card. -/
import Derived.Test.YtogknbpmgflpgaaGreatDoorFr
import Derived.Test.YtogknbpmgflpgaaGreatDoorCards
namespace Go.Proofs.YtogknbpmgflpgaaGreatDoor.flacSizes
open Go.ChangeShapes Go.WideShapes Go.ChangeAt Go.RowKit

theorem k_named : Tryz.prog.funcNamed Rows.flacSizesRow.func = some 7 := by kernel_rfl
theorem k_joined : joinedFacts Tryz.prog 7 Tryz.f7 Rows.flacSizesSpec Rows.flacSizesRow = true := by kernel_rfl
theorem k_wrap : Tryz.f7.isWrapper Tryz.prog Rows.flacSizesRow.wrapper Rows.flacSizesRow.mainSum := by
  unfold Func.isWrapper; first | (rw [if_pos (by decide +kernel)]; kernel_rfl) | (rw [if_neg (by decide +kernel)]; exact ⟨rfl, rfl⟩)
theorem k_wf : Rows.flacSizesRow.wfByText (OpenSpec.ofChange Rows.flacSizesSpec) = true := by kernel_rfl
theorem k_goes : false = Rows.flacSizesRow.goesBy Tryz.prog := by kernel_rfl
theorem k_stand : ([51].all fun u => !Tryz.prog.wantsStandIn u) = true := by kernel_rfl
end Go.Proofs.YtogknbpmgflpgaaGreatDoor.flacSizes
