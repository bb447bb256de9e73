/- The closed facts of ConsoleFiles's row and card. -/
import Derived.Test.YtjoechkdmdinoaaGreatDoorMFr
import Derived.Test.YtjoechkdmdinoaaGreatDoorKg
namespace Go.Proofs.YtjoechkdmdinoaaGreatDoor.consoleFiles
open Go.ChangeShapes Go.WideShapes Go.ChangeAt Go.RowKit

theorem k_named : Tryz.prog.funcNamed Rows.consoleFilesRow.func = some 9 := by kernel_rfl
set_option maxHeartbeats 40000000 in
theorem k_joined : joinedFacts Tryz.prog 9 Tryz.f9 Rows.consoleFilesSpec Rows.consoleFilesRow = true := by
  unfold joinedFacts
  simp only [Bool.and_eq_true]
  repeat' apply And.intro
  all_goals (as_aux_lemma => kernel_rfl)
theorem k_wrap : Tryz.f9.isWrapper Tryz.prog Rows.consoleFilesRow.wrapper Rows.consoleFilesRow.mainSum := by
  unfold Func.isWrapper; first | (rw [if_pos (by decide +kernel)]; kernel_rfl) | (rw [if_neg (by decide +kernel)]; exact ⟨rfl, rfl⟩)
theorem k_wf : Rows.consoleFilesRow.wfByText (OpenSpec.ofChange Rows.consoleFilesSpec) = true := by kernel_rfl
theorem k_goes : false = Rows.consoleFilesRow.goesBy Tryz.prog := goesBy_no goes_all _ rfl
theorem k_stand : ([51].all fun u => !Tryz.prog.wantsStandIn u) = true := by kernel_rfl
end Go.Proofs.YtjoechkdmdinoaaGreatDoor.consoleFiles
