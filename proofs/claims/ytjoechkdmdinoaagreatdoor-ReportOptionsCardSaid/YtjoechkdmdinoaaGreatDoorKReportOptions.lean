/- The closed facts of ReportOptions's row and card. -/
import Derived.Test.YtjoechkdmdinoaaGreatDoorMFr
import Derived.Test.YtjoechkdmdinoaaGreatDoorKg
namespace Go.Proofs.YtjoechkdmdinoaaGreatDoor.reportOptions
open Go.ChangeShapes Go.WideShapes Go.ChangeAt Go.RowKit

theorem k_named : Tryz.prog.funcNamed Rows.reportOptionsRow.func = some 8 := by kernel_rfl
set_option maxHeartbeats 40000000 in
theorem k_joined : joinedFacts Tryz.prog 8 Tryz.f8 Rows.reportOptionsSpec Rows.reportOptionsRow = true := by
  unfold joinedFacts
  simp only [Bool.and_eq_true]
  repeat' apply And.intro
  all_goals (as_aux_lemma => kernel_rfl)
theorem k_wrap : Tryz.f8.isWrapper Tryz.prog Rows.reportOptionsRow.wrapper Rows.reportOptionsRow.mainSum := by
  unfold Func.isWrapper; first | (rw [if_pos (by decide +kernel)]; kernel_rfl) | (rw [if_neg (by decide +kernel)]; exact ⟨rfl, rfl⟩)
theorem k_wf : Rows.reportOptionsRow.wfByText (OpenSpec.ofChange Rows.reportOptionsSpec) = true := by kernel_rfl
theorem k_goes : false = Rows.reportOptionsRow.goesBy Tryz.prog := goesBy_no goes_all _ rfl
theorem k_stand : ([47].all fun u => !Tryz.prog.wantsStandIn u) = true := by kernel_rfl
end Go.Proofs.YtjoechkdmdinoaaGreatDoor.reportOptions
