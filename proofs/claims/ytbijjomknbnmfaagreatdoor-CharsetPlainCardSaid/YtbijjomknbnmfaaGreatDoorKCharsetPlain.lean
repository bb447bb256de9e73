/- The closed facts of CharsetPlain's row and card. -/
import Derived.Test.YtbijjomknbnmfaaGreatDoorFr
import Derived.Test.YtbijjomknbnmfaaGreatDoorCards
namespace Go.Proofs.YtbijjomknbnmfaaGreatDoor.charsetPlain
open Go.ChangeShapes Go.WideShapes Go.ChangeAt Go.RowKit

theorem k_named : Tryz.prog.funcNamed Rows.charsetPlainRow.func = some 12 := by kernel_rfl
theorem k_joined : joinedFacts Tryz.prog 12 Tryz.f12 Rows.charsetPlainSpec Rows.charsetPlainRow = true := by kernel_rfl
theorem k_wrap : Tryz.f12.isWrapper Tryz.prog Rows.charsetPlainRow.wrapper Rows.charsetPlainRow.mainSum := by
  unfold Func.isWrapper; first | (rw [if_pos (by decide +kernel)]; kernel_rfl) | (rw [if_neg (by decide +kernel)]; exact ⟨rfl, rfl⟩)
theorem k_wf : Rows.charsetPlainRow.wfByText (OpenSpec.ofChange Rows.charsetPlainSpec) = true := by kernel_rfl
theorem k_goes : false = Rows.charsetPlainRow.goesBy Tryz.prog := by kernel_rfl
theorem k_stand : ([3, 9].all fun u => !Tryz.prog.wantsStandIn u) = true := by kernel_rfl
end Go.Proofs.YtbijjomknbnmfaaGreatDoor.charsetPlain
