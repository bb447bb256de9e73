/- The closed facts of DetectResolves's row and card. -/
import Derived.Test.YtbijjomknbnmfaaGreatDoorFr
import Derived.Test.YtbijjomknbnmfaaGreatDoorCards
namespace Go.Proofs.YtbijjomknbnmfaaGreatDoor.detectResolves
open Go.ChangeShapes Go.WideShapes Go.ChangeAt Go.RowKit

theorem k_named : Tryz.prog.funcNamed Rows.detectResolvesRow.func = some 13 := by kernel_rfl
theorem k_joined : joinedFacts Tryz.prog 13 Tryz.f13 Rows.detectResolvesSpec Rows.detectResolvesRow = true := by kernel_rfl
theorem k_wrap : Tryz.f13.isWrapper Tryz.prog Rows.detectResolvesRow.wrapper Rows.detectResolvesRow.mainSum := by
  unfold Func.isWrapper; first | (rw [if_pos (by decide +kernel)]; kernel_rfl) | (rw [if_neg (by decide +kernel)]; exact ⟨rfl, rfl⟩)
theorem k_wf : Rows.detectResolvesRow.wfByText (OpenSpec.ofChange Rows.detectResolvesSpec) = true := by kernel_rfl
theorem k_goes : false = Rows.detectResolvesRow.goesBy Tryz.prog := by kernel_rfl
theorem k_stand : ([9, 9, 3, 4].all fun u => !Tryz.prog.wantsStandIn u) = true := by kernel_rfl
end Go.Proofs.YtbijjomknbnmfaaGreatDoor.detectResolves
