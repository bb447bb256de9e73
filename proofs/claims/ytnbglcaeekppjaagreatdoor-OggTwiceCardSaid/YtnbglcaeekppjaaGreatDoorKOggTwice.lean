/- The closed facts of OggTwice's row and card. -/
import Derived.Test.YtnbglcaeekppjaaGreatDoorMFr
import Derived.Test.YtnbglcaeekppjaaGreatDoorCards
namespace Go.Proofs.YtnbglcaeekppjaaGreatDoor.oggTwice
open Go.ChangeShapes Go.WideShapes Go.ChangeAt Go.RowKit

theorem k_named : Tryz.prog.funcNamed Rows.oggTwiceRow.func = some 4 := by kernel_rfl
set_option maxHeartbeats 40000000 in
theorem k_joined : joinedFacts Tryz.prog 4 Tryz.f4 Rows.oggTwiceSpec Rows.oggTwiceRow = true := by
  unfold joinedFacts
  simp only [Bool.and_eq_true]
  repeat' apply And.intro
  all_goals (as_aux_lemma => kernel_rfl)
theorem k_wrap : Tryz.f4.isWrapper Tryz.prog Rows.oggTwiceRow.wrapper Rows.oggTwiceRow.mainSum := by
  unfold Func.isWrapper; first | (rw [if_pos (by decide +kernel)]; kernel_rfl) | (rw [if_neg (by decide +kernel)]; exact ⟨rfl, rfl⟩)
theorem k_wf : Rows.oggTwiceRow.wfByText (OpenSpec.ofChange Rows.oggTwiceSpec) = true := by kernel_rfl
theorem k_goes : false = Rows.oggTwiceRow.goesBy Tryz.prog := by kernel_rfl
theorem k_stand : ([9, 3, 4].all fun u => !Tryz.prog.wantsStandIn u) = true := by kernel_rfl
end Go.Proofs.YtnbglcaeekppjaaGreatDoor.oggTwice

