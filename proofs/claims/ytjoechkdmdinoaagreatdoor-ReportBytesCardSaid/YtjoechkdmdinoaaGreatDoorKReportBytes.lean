/- The closed facts of ReportBytes's row and card. -/
import Derived.Test.YtjoechkdmdinoaaGreatDoorMFr
import Derived.Test.YtjoechkdmdinoaaGreatDoorKg
namespace Go.Proofs.YtjoechkdmdinoaaGreatDoor.reportBytes
open Go.ChangeShapes Go.WideShapes Go.ChangeAt Go.RowKit

theorem k_named : Tryz.prog.funcNamed Rows.reportBytesRow.func = some 7 := by kernel_rfl
set_option maxHeartbeats 40000000 in
theorem k_joined : joinedFacts Tryz.prog 7 Tryz.f7 Rows.reportBytesSpec Rows.reportBytesRow = true := by
  unfold joinedFacts
  simp only [Bool.and_eq_true]
  repeat' apply And.intro
  all_goals (as_aux_lemma => kernel_rfl)
theorem k_wrap : Tryz.f7.isWrapper Tryz.prog Rows.reportBytesRow.wrapper Rows.reportBytesRow.mainSum := by
  unfold Func.isWrapper; first | (rw [if_pos (by decide +kernel)]; kernel_rfl) | (rw [if_neg (by decide +kernel)]; exact ⟨rfl, rfl⟩)
theorem k_wf : Rows.reportBytesRow.wfByText (OpenSpec.ofChange Rows.reportBytesSpec) = true := by kernel_rfl
theorem k_goes : false = Rows.reportBytesRow.goesBy Tryz.prog := goesBy_no goes_all _ rfl
theorem k_stand : ([9].all fun u => !Tryz.prog.wantsStandIn u) = true := by kernel_rfl
end Go.Proofs.YtjoechkdmdinoaaGreatDoor.reportBytes
