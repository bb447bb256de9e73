/- The closed facts of DetectMarks's row and card. -/
import Derived.Test.YtbijjomknbnmfaaGreatDoorFr
import Derived.Test.YtbijjomknbnmfaaGreatDoorCards
namespace Go.Proofs.YtbijjomknbnmfaaGreatDoor.detectMarks
open Go.ChangeShapes Go.WideShapes Go.ChangeAt Go.RowKit

theorem k_named : Tryz.prog.funcNamed Rows.detectMarksRow.func = some 9 := by kernel_rfl
theorem k_joined : joinedFacts Tryz.prog 9 Tryz.f9 Rows.detectMarksSpec Rows.detectMarksRow = true := by kernel_rfl
theorem k_wrap : Tryz.f9.isWrapper Tryz.prog Rows.detectMarksRow.wrapper Rows.detectMarksRow.mainSum := by
  unfold Func.isWrapper; first | (rw [if_pos (by decide +kernel)]; kernel_rfl) | (rw [if_neg (by decide +kernel)]; exact ⟨rfl, rfl⟩)
theorem k_wf : Rows.detectMarksRow.wfByText (OpenSpec.ofChange Rows.detectMarksSpec) = true := by kernel_rfl
theorem k_goes : false = Rows.detectMarksRow.goesBy Tryz.prog := by kernel_rfl
theorem k_stand : ([9].all fun u => !Tryz.prog.wantsStandIn u) = true := by kernel_rfl
end Go.Proofs.YtbijjomknbnmfaaGreatDoor.detectMarks
