/- Closed facts of the program that each card asks. -/
import Derived.Test.YtgidlcdgpiapkaaGreatDoorCards
import Derived.Test.YtgidlcdgpiapkaaGreatDoorFr
namespace Go.Proofs.YtgidlcdgpiapkaaGreatDoor
open Go.ChangeShapes Go.WideShapes Go.ChangeAt Go.RowKit
theorem k_main : Tryz.prog.mainIs = some (Rows.flacReadsCard.stood.harness.1, Rows.flacReadsCard.stood.harness.2.toList) := by kernel_rfl
theorem k_looks : false = Tryz.prog.looks [] := by kernel_rfl
end Go.Proofs.YtgidlcdgpiapkaaGreatDoor
