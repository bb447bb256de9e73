/- The closed facts of CharsetTries's row and card. -/
import Derived.Test.YtbijjomknbnmfaaGreatDoorFr
import Derived.Test.YtbijjomknbnmfaaGreatDoorCards
namespace Go.Proofs.YtbijjomknbnmfaaGreatDoor.charsetTries
open Go.ChangeShapes Go.WideShapes Go.ChangeAt Go.RowKit

theorem k_named : Tryz.prog.funcNamed Rows.charsetTriesRow.func = some 5 := by kernel_rfl
theorem k_joined : joinedFacts Tryz.prog 5 Tryz.f5 Rows.charsetTriesSpec Rows.charsetTriesRow = true := by kernel_rfl
theorem k_wrap : Tryz.f5.isWrapper Tryz.prog Rows.charsetTriesRow.wrapper Rows.charsetTriesRow.mainSum := by
  unfold Func.isWrapper; first | (rw [if_pos (by decide +kernel)]; kernel_rfl) | (rw [if_neg (by decide +kernel)]; exact ⟨rfl, rfl⟩)
theorem k_wf : Rows.charsetTriesRow.wfByText (OpenSpec.ofChange Rows.charsetTriesSpec) = true := by kernel_rfl
theorem k_goes : false = Rows.charsetTriesRow.goesBy Tryz.prog := by kernel_rfl
theorem k_stand : ([9, 39].all fun u => !Tryz.prog.wantsStandIn u) = true := by kernel_rfl
end Go.Proofs.YtbijjomknbnmfaaGreatDoor.charsetTries
