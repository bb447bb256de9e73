/- The closed facts of DetectSigns's row and card. -/
import Derived.Test.YtbijjomknbnmfaaGreatDoorFr
import Derived.Test.YtbijjomknbnmfaaGreatDoorCards
namespace Go.Proofs.YtbijjomknbnmfaaGreatDoor.detectSigns
open Go.ChangeShapes Go.WideShapes Go.ChangeAt Go.RowKit

theorem k_named : Tryz.prog.funcNamed Rows.detectSignsRow.func = some 14 := by kernel_rfl
theorem k_joined : joinedFacts Tryz.prog 14 Tryz.f14 Rows.detectSignsSpec Rows.detectSignsRow = true := by kernel_rfl
theorem k_wrap : Tryz.f14.isWrapper Tryz.prog Rows.detectSignsRow.wrapper Rows.detectSignsRow.mainSum := by
  unfold Func.isWrapper; first | (rw [if_pos (by decide +kernel)]; kernel_rfl) | (rw [if_neg (by decide +kernel)]; exact ⟨rfl, rfl⟩)
theorem k_wf : Rows.detectSignsRow.wfByText (OpenSpec.ofChange Rows.detectSignsSpec) = true := by kernel_rfl
theorem k_goes : false = Rows.detectSignsRow.goesBy Tryz.prog := by kernel_rfl
theorem k_stand : ([3, 9, 9, 3, 4].all fun u => !Tryz.prog.wantsStandIn u) = true := by kernel_rfl
end Go.Proofs.YtbijjomknbnmfaaGreatDoor.detectSigns
