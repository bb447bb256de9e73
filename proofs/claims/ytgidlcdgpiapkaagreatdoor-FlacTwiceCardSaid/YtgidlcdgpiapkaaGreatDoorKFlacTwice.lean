/- The closed facts of FlacTwice's row and card. -/
import Derived.Test.YtgidlcdgpiapkaaGreatDoorCards
import Derived.Test.YtgidlcdgpiapkaaGreatDoorFr
namespace Go.Proofs.YtgidlcdgpiapkaaGreatDoor.flacTwice
open Go.ChangeShapes Go.WideShapes Go.ChangeAt Go.RowKit

theorem k_named : Tryz.prog.funcNamed Rows.flacTwiceRow.func = some 5 := by kernel_rfl
theorem k_joined : joinedFacts Tryz.prog 5 Tryz.f5 Rows.flacTwiceSpec Rows.flacTwiceRow = true := by kernel_rfl
theorem k_wrap : Tryz.f5.isWrapper Tryz.prog Rows.flacTwiceRow.wrapper Rows.flacTwiceRow.mainSum := by
  unfold Func.isWrapper; first | (rw [if_pos (by decide +kernel)]; kernel_rfl) | (rw [if_neg (by decide +kernel)]; exact ⟨rfl, rfl⟩)
theorem k_wf : Rows.flacTwiceRow.wfByText (OpenSpec.ofChange Rows.flacTwiceSpec) = true := by kernel_rfl
theorem k_goes : false = Rows.flacTwiceRow.goesBy Tryz.prog := by kernel_rfl
theorem k_stand : ([9, 3, 4].all fun u => !Tryz.prog.wantsStandIn u) = true := by kernel_rfl
end Go.Proofs.YtgidlcdgpiapkaaGreatDoor.flacTwice
