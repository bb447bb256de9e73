/- The closed facts of CharsetReads's row and card. -/
import Derived.Test.YtbijjomknbnmfaaGreatDoorFr
import Derived.Test.YtbijjomknbnmfaaGreatDoorCards
namespace Go.Proofs.YtbijjomknbnmfaaGreatDoor.charsetReads
open Go.ChangeShapes Go.WideShapes Go.ChangeAt Go.RowKit

theorem k_named : Tryz.prog.funcNamed Rows.charsetReadsRow.func = some 10 := by kernel_rfl
theorem k_joined : joinedFacts Tryz.prog 10 Tryz.f10 Rows.charsetReadsSpec Rows.charsetReadsRow = true := by kernel_rfl
theorem k_wrap : Tryz.f10.isWrapper Tryz.prog Rows.charsetReadsRow.wrapper Rows.charsetReadsRow.mainSum := by
  unfold Func.isWrapper; first | (rw [if_pos (by decide +kernel)]; kernel_rfl) | (rw [if_neg (by decide +kernel)]; exact ⟨rfl, rfl⟩)
theorem k_wf : Rows.charsetReadsRow.wfByText (OpenSpec.ofChange Rows.charsetReadsSpec) = true := by kernel_rfl
theorem k_goes : false = Rows.charsetReadsRow.goesBy Tryz.prog := by kernel_rfl
theorem k_stand : ([3, 9].all fun u => !Tryz.prog.wantsStandIn u) = true := by kernel_rfl
end Go.Proofs.YtbijjomknbnmfaaGreatDoor.charsetReads
