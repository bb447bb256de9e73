/- The closed facts of ConsoleNil's row and card. -/
import Derived.Test.YtankkegoeocobaaGreatDoorMFr
import Derived.Test.YtankkegoeocobaaGreatDoorKg
namespace Go.Proofs.YtankkegoeocobaaGreatDoor.consoleNil
open Go.ChangeShapes Go.WideShapes Go.ChangeAt Go.RowKit

theorem k_named : Tryz.prog.funcNamed Rows.consoleNilRow.func = some 11 := by kernel_rfl
set_option maxHeartbeats 40000000 in
theorem k_joined : joinedFacts Tryz.prog 11 Tryz.f11 Rows.consoleNilSpec Rows.consoleNilRow = true := by
  unfold joinedFacts
  simp only [Bool.and_eq_true]
  repeat' apply And.intro
  all_goals (as_aux_lemma => kernel_rfl)
theorem k_wrap : Tryz.f11.isWrapper Tryz.prog Rows.consoleNilRow.wrapper Rows.consoleNilRow.mainSum := by
  unfold Func.isWrapper; first | (rw [if_pos (by decide +kernel)]; kernel_rfl) | (rw [if_neg (by decide +kernel)]; exact ⟨rfl, rfl⟩)
theorem k_wf : Rows.consoleNilRow.wfByText (OpenSpec.ofChange Rows.consoleNilSpec) = true := by kernel_rfl
theorem k_goes : false = Rows.consoleNilRow.goesBy Tryz.prog := goesBy_no goes_all _ rfl
theorem k_stand : ([9].all fun u => !Tryz.prog.wantsStandIn u) = true := by kernel_rfl
end Go.Proofs.YtankkegoeocobaaGreatDoor.consoleNil
