/- KFlacReads -/
import Derived.Test.YtmfjmgjhfplijaaGreatDoorMFr
import Derived.Test.YtmfjmgjhfplijaaGreatDoorCards
set_option linter.unusedVariables false
set_option linter.unusedSimpArgs false
set_option maxHeartbeats 40000000
namespace Go.Proofs.YtmfjmgjhfplijaaGreatDoor.flacReads
open Go.ChangeShapes Go.WideShapes Go.ChangeAt Go.RowKit
theorem k_named : Tryz.prog.funcNamed Rows.flacReadsRow.func = some 3:=by kernel_rfl
theorem k_joined : joinedFacts Tryz.prog 3 Tryz.f3 Rows.flacReadsSpec Rows.flacReadsRow = true:=by
 unfold joinedFacts
 simp only [Bool.and_eq_true]
 repeat' apply And.intro
 all_goals (as_aux_lemma=>kernel_rfl)
theorem k_wrap : Tryz.f3.isWrapper Tryz.prog Rows.flacReadsRow.wrapper Rows.flacReadsRow.mainSum:=by
 unfold Func.isWrapper;first | (rw [if_pos (by decide +kernel)];kernel_rfl) | (rw [if_neg (by decide +kernel)];exact ⟨rfl,rfl⟩)
theorem k_wf : Rows.flacReadsRow.wfByText (OpenSpec.ofChange Rows.flacReadsSpec) = true:=by kernel_rfl
theorem k_goes : false = Rows.flacReadsRow.goesBy Tryz.prog:=by kernel_rfl
theorem k_stand : ([9,3,4].all fun u=>!Tryz.prog.wantsStandIn u) = true:=by kernel_rfl
end Go.Proofs.YtmfjmgjhfplijaaGreatDoor.flacReads
