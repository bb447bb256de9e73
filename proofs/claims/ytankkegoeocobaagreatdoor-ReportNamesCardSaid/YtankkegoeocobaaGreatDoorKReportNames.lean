/- The closed facts of ReportNames's row and card. -/
import Derived.Test.YtankkegoeocobaaGreatDoorMFr
import Derived.Test.YtankkegoeocobaaGreatDoorKg
namespace Go.Proofs.YtankkegoeocobaaGreatDoor.reportNames
open Go.ChangeShapes Go.WideShapes Go.ChangeAt Go.RowKit

theorem k_named : Tryz.prog.funcNamed Rows.reportNamesRow.func = some 6 := by kernel_rfl
set_option maxHeartbeats 40000000 in
theorem k_joined : joinedFacts Tryz.prog 6 Tryz.f6 Rows.reportNamesSpec Rows.reportNamesRow = true := by
  unfold joinedFacts
  simp only [Bool.and_eq_true]
  repeat' apply And.intro
  all_goals (as_aux_lemma => kernel_rfl)
theorem k_wrap : Tryz.f6.isWrapper Tryz.prog Rows.reportNamesRow.wrapper Rows.reportNamesRow.mainSum := by
  unfold Func.isWrapper; first | (rw [if_pos (by decide +kernel)]; kernel_rfl) | (rw [if_neg (by decide +kernel)]; exact ⟨rfl, rfl⟩)
theorem k_wf : Rows.reportNamesRow.wfByText (OpenSpec.ofChange Rows.reportNamesSpec) = true := by kernel_rfl
theorem k_goes : false = Rows.reportNamesRow.goesBy Tryz.prog := goesBy_no goes_all _ rfl
theorem k_stand : ([3, 9].all fun u => !Tryz.prog.wantsStandIn u) = true := by kernel_rfl
end Go.Proofs.YtankkegoeocobaaGreatDoor.reportNames
