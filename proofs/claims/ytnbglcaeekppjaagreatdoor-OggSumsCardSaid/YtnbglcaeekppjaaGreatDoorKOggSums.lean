/- The closed facts of OggSums's row and card. -/
import Derived.Test.YtnbglcaeekppjaaGreatDoorMFr
import Derived.Test.YtnbglcaeekppjaaGreatDoorCards
namespace Go.Proofs.YtnbglcaeekppjaaGreatDoor.oggSums
open Go.ChangeShapes Go.WideShapes Go.ChangeAt Go.RowKit

theorem k_named : Tryz.prog.funcNamed Rows.oggSumsRow.func = some 5 := by kernel_rfl
set_option maxHeartbeats 40000000 in
theorem k_joined : joinedFacts Tryz.prog 5 Tryz.f5 Rows.oggSumsSpec Rows.oggSumsRow = true := by
  unfold joinedFacts
  simp only [Bool.and_eq_true]
  repeat' apply And.intro
  all_goals (as_aux_lemma => kernel_rfl)
theorem k_wrap : Tryz.f5.isWrapper Tryz.prog Rows.oggSumsRow.wrapper Rows.oggSumsRow.mainSum := by
  unfold Func.isWrapper; first | (rw [if_pos (by decide +kernel)]; kernel_rfl) | (rw [if_neg (by decide +kernel)]; exact ⟨rfl, rfl⟩)
theorem k_wf : Rows.oggSumsRow.wfByText (OpenSpec.ofChange Rows.oggSumsSpec) = true := by kernel_rfl
theorem k_goes : false = Rows.oggSumsRow.goesBy Tryz.prog := by kernel_rfl
theorem k_stand : ([36].all fun u => !Tryz.prog.wantsStandIn u) = true := by kernel_rfl
end Go.Proofs.YtnbglcaeekppjaaGreatDoor.oggSums
