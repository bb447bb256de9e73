/- Closed facts of the program that each card asks. -/
import Derived.Test.YtmpndnebjahdjaaGreatDoorFr
import Derived.Test.YtmpndnebjahdjaaGreatDoorCards
namespace Go.Proofs.YtmpndnebjahdjaaGreatDoor
open Go.ChangeShapes Go.WideShapes Go.ChangeAt Go.RowKit
theorem k_main : Tryz.prog.mainIs = some (Rows.charsetWritesCard.stood.harness.1, Rows.charsetWritesCard.stood.harness.2.toList) := by kernel_rfl
theorem k_looks : false = Tryz.prog.looks [] := by kernel_rfl
end Go.Proofs.YtmpndnebjahdjaaGreatDoor
