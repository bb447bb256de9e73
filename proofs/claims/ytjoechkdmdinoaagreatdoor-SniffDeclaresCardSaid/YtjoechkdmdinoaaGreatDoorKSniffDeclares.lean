/- The closed facts of SniffDeclares's row and card. -/
import Derived.Test.YtjoechkdmdinoaaGreatDoorMFr
import Derived.Test.YtjoechkdmdinoaaGreatDoorKg
namespace Go.Proofs.YtjoechkdmdinoaaGreatDoor.sniffDeclares
open Go.ChangeShapes Go.WideShapes Go.ChangeAt Go.RowKit

theorem k_named : Tryz.prog.funcNamed Rows.sniffDeclaresRow.func = some 5 := by kernel_rfl
set_option maxHeartbeats 40000000 in
theorem k_joined : joinedFacts Tryz.prog 5 Tryz.f5 Rows.sniffDeclaresSpec Rows.sniffDeclaresRow = true := by
  unfold joinedFacts
  simp only [Bool.and_eq_true]
  repeat' apply And.intro
  all_goals (as_aux_lemma => kernel_rfl)
theorem k_wrap : Tryz.f5.isWrapper Tryz.prog Rows.sniffDeclaresRow.wrapper Rows.sniffDeclaresRow.mainSum := by
  unfold Func.isWrapper; first | (rw [if_pos (by decide +kernel)]; kernel_rfl) | (rw [if_neg (by decide +kernel)]; exact ⟨rfl, rfl⟩)
theorem k_wf : Rows.sniffDeclaresRow.wfByText (OpenSpec.ofChange Rows.sniffDeclaresSpec) = true := by kernel_rfl
theorem k_goes : false = Rows.sniffDeclaresRow.goesBy Tryz.prog := goesBy_no goes_all _ rfl
theorem k_stand : ([3, 9].all fun u => !Tryz.prog.wantsStandIn u) = true := by kernel_rfl
end Go.Proofs.YtjoechkdmdinoaaGreatDoor.sniffDeclares
