/- The closed facts of ReportLeaves's row and card. -/
import Derived.Test.YtjoechkdmdinoaaGreatDoorMFr
import Derived.Test.YtjoechkdmdinoaaGreatDoorKg
namespace Go.Proofs.YtjoechkdmdinoaaGreatDoor.reportLeaves
open Go.ChangeShapes Go.WideShapes Go.ChangeAt Go.RowKit

theorem k_named : Tryz.prog.funcNamed Rows.reportLeavesRow.func = some 6 := by kernel_rfl
set_option maxHeartbeats 40000000 in
theorem k_joined : joinedFacts Tryz.prog 6 Tryz.f6 Rows.reportLeavesSpec Rows.reportLeavesRow = true := by
  unfold joinedFacts
  simp only [Bool.and_eq_true]
  repeat' apply And.intro
  all_goals (as_aux_lemma => kernel_rfl)
theorem k_wrap : Tryz.f6.isWrapper Tryz.prog Rows.reportLeavesRow.wrapper Rows.reportLeavesRow.mainSum := by
  unfold Func.isWrapper; first | (rw [if_pos (by decide +kernel)]; kernel_rfl) | (rw [if_neg (by decide +kernel)]; exact ⟨rfl, rfl⟩)
theorem k_wf : Rows.reportLeavesRow.wfByText (OpenSpec.ofChange Rows.reportLeavesSpec) = true := by kernel_rfl
theorem k_goes : false = Rows.reportLeavesRow.goesBy Tryz.prog := goesBy_no goes_all _ rfl
theorem k_stand : ([37].all fun u => !Tryz.prog.wantsStandIn u) = true := by kernel_rfl
end Go.Proofs.YtjoechkdmdinoaaGreatDoor.reportLeaves
