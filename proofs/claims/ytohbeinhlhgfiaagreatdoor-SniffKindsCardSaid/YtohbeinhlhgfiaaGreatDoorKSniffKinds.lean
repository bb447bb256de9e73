/- The closed facts of SniffKinds's row and card. -/
import Derived.Test.YtohbeinhlhgfiaaGreatDoorMFr
import Derived.Test.YtohbeinhlhgfiaaGreatDoorKg
namespace Go.Proofs.YtohbeinhlhgfiaaGreatDoor.sniffKinds
open Go.ChangeShapes Go.WideShapes Go.ChangeAt Go.RowKit

theorem k_named : Tryz.prog.funcNamed Rows.sniffKindsRow.func = some 3 := by kernel_rfl
set_option maxHeartbeats 40000000 in
theorem k_joined : joinedFacts Tryz.prog 3 Tryz.f3 Rows.sniffKindsSpec Rows.sniffKindsRow = true := by
  unfold joinedFacts
  simp only [Bool.and_eq_true]
  repeat' apply And.intro
  all_goals (as_aux_lemma => kernel_rfl)
theorem k_wrap : Tryz.f3.isWrapper Tryz.prog Rows.sniffKindsRow.wrapper Rows.sniffKindsRow.mainSum := by
  unfold Func.isWrapper; first | (rw [if_pos (by decide +kernel)]; kernel_rfl) | (rw [if_neg (by decide +kernel)]; exact ⟨rfl, rfl⟩)
theorem k_wf : Rows.sniffKindsRow.wfByText (OpenSpec.ofChange Rows.sniffKindsSpec) = true := by kernel_rfl
theorem k_goes : false = Rows.sniffKindsRow.goesBy Tryz.prog := goesBy_no goes_all _ rfl
theorem k_stand : ([9].all fun u => !Tryz.prog.wantsStandIn u) = true := by kernel_rfl
end Go.Proofs.YtohbeinhlhgfiaaGreatDoor.sniffKinds
