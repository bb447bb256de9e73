/- The closed facts of CharsetNames's row and card. -/
import Derived.Test.YtbijjomknbnmfaaGreatDoorFr
import Derived.Test.YtbijjomknbnmfaaGreatDoorCards
namespace Go.Proofs.YtbijjomknbnmfaaGreatDoor.charsetNames
open Go.ChangeShapes Go.WideShapes Go.ChangeAt Go.RowKit

theorem k_named : Tryz.prog.funcNamed Rows.charsetNamesRow.func = some 4 := by kernel_rfl
theorem k_joined : joinedFacts Tryz.prog 4 Tryz.f4 Rows.charsetNamesSpec Rows.charsetNamesRow = true := by kernel_rfl
theorem k_wrap : Tryz.f4.isWrapper Tryz.prog Rows.charsetNamesRow.wrapper Rows.charsetNamesRow.mainSum := by
  unfold Func.isWrapper; first | (rw [if_pos (by decide +kernel)]; kernel_rfl) | (rw [if_neg (by decide +kernel)]; exact ⟨rfl, rfl⟩)
theorem k_wf : Rows.charsetNamesRow.wfByText (OpenSpec.ofChange Rows.charsetNamesSpec) = true := by kernel_rfl
theorem k_goes : false = Rows.charsetNamesRow.goesBy Tryz.prog := by kernel_rfl
theorem k_stand : ([3, 9].all fun u => !Tryz.prog.wantsStandIn u) = true := by kernel_rfl
end Go.Proofs.YtbijjomknbnmfaaGreatDoor.charsetNames
