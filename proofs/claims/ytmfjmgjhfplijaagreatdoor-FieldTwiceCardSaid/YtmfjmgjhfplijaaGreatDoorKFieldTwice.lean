/- The closed facts of FieldTwice's row and card. -/
import Derived.Test.YtmfjmgjhfplijaaGreatDoorMFr
import Derived.Test.YtmfjmgjhfplijaaGreatDoorCards
namespace Go.Proofs.YtmfjmgjhfplijaaGreatDoor.fieldTwice
open Go.ChangeShapes Go.WideShapes Go.ChangeAt Go.RowKit

theorem k_named : Tryz.prog.funcNamed Rows.fieldTwiceRow.func = some 4 := by kernel_rfl
set_option maxHeartbeats 40000000 in
theorem k_joined : joinedFacts Tryz.prog 4 Tryz.f4 Rows.fieldTwiceSpec Rows.fieldTwiceRow = true := by
  unfold joinedFacts
  simp only [Bool.and_eq_true]
  repeat' apply And.intro
  all_goals (as_aux_lemma => kernel_rfl)
theorem k_wrap : Tryz.f4.isWrapper Tryz.prog Rows.fieldTwiceRow.wrapper Rows.fieldTwiceRow.mainSum := by
  unfold Func.isWrapper; first | (rw [if_pos (by decide +kernel)]; kernel_rfl) | (rw [if_neg (by decide +kernel)]; exact ⟨rfl, rfl⟩)
theorem k_wf : Rows.fieldTwiceRow.wfByText (OpenSpec.ofChange Rows.fieldTwiceSpec) = true := by kernel_rfl
theorem k_goes : false = Rows.fieldTwiceRow.goesBy Tryz.prog := by kernel_rfl
theorem k_stand : ([3, 9, 9, 3, 4].all fun u => !Tryz.prog.wantsStandIn u) = true := by kernel_rfl
end Go.Proofs.YtmfjmgjhfplijaaGreatDoor.fieldTwice
