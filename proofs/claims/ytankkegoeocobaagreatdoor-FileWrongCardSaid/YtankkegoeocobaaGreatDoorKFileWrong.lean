/- The closed facts of FileWrong's row and card. -/
import Derived.Test.YtankkegoeocobaaGreatDoorMFr
import Derived.Test.YtankkegoeocobaaGreatDoorKg
namespace Go.Proofs.YtankkegoeocobaaGreatDoor.fileWrong
open Go.ChangeShapes Go.WideShapes Go.ChangeAt Go.RowKit

theorem k_named : Tryz.prog.funcNamed Rows.fileWrongRow.func = some 3 := by kernel_rfl
set_option maxHeartbeats 40000000 in
theorem k_joined : joinedFacts Tryz.prog 3 Tryz.f3 Rows.fileWrongSpec Rows.fileWrongRow = true := by
  unfold joinedFacts
  simp only [Bool.and_eq_true]
  repeat' apply And.intro
  all_goals (as_aux_lemma => kernel_rfl)
theorem k_wrap : Tryz.f3.isWrapper Tryz.prog Rows.fileWrongRow.wrapper Rows.fileWrongRow.mainSum := by
  unfold Func.isWrapper; first | (rw [if_pos (by decide +kernel)]; kernel_rfl) | (rw [if_neg (by decide +kernel)]; exact ⟨rfl, rfl⟩)
theorem k_wf : Rows.fileWrongRow.wfByText (OpenSpec.ofChange Rows.fileWrongSpec) = true := by kernel_rfl
theorem k_goes : false = Rows.fileWrongRow.goesBy Tryz.prog := goesBy_no goes_all _ rfl
theorem k_stand : ([3, 9, 9].all fun u => !Tryz.prog.wantsStandIn u) = true := by kernel_rfl
end Go.Proofs.YtankkegoeocobaaGreatDoor.fileWrong
