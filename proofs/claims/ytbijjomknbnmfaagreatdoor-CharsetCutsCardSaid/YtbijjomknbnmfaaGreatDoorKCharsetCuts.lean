/- The closed facts of CharsetCuts's row and card. -/
import Derived.Test.YtbijjomknbnmfaaGreatDoorFr
import Derived.Test.YtbijjomknbnmfaaGreatDoorCards
namespace Go.Proofs.YtbijjomknbnmfaaGreatDoor.charsetCuts
open Go.ChangeShapes Go.WideShapes Go.ChangeAt Go.RowKit

theorem k_named : Tryz.prog.funcNamed Rows.charsetCutsRow.func = some 3 := by kernel_rfl
theorem k_joined : joinedFacts Tryz.prog 3 Tryz.f3 Rows.charsetCutsSpec Rows.charsetCutsRow = true := by kernel_rfl
theorem k_wrap : Tryz.f3.isWrapper Tryz.prog Rows.charsetCutsRow.wrapper Rows.charsetCutsRow.mainSum := by
  unfold Func.isWrapper; first | (rw [if_pos (by decide +kernel)]; kernel_rfl) | (rw [if_neg (by decide +kernel)]; exact ⟨rfl, rfl⟩)
theorem k_wf : Rows.charsetCutsRow.wfByText (OpenSpec.ofChange Rows.charsetCutsSpec) = true := by kernel_rfl
theorem k_goes : false = Rows.charsetCutsRow.goesBy Tryz.prog := by kernel_rfl
theorem k_stand : ([3, 9, 9].all fun u => !Tryz.prog.wantsStandIn u) = true := by kernel_rfl
end Go.Proofs.YtbijjomknbnmfaaGreatDoor.charsetCuts
