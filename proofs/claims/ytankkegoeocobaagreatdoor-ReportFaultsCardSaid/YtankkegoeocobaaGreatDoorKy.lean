/- Closed facts of the program that each card asks. -/
import Derived.Test.YtankkegoeocobaaGreatDoorCards
import Derived.Test.YtankkegoeocobaaGreatDoorMFr
namespace Go.Proofs.YtankkegoeocobaaGreatDoor
open Go.ChangeShapes Go.WideShapes Go.ChangeAt Go.RowKit
theorem k_main : Tryz.prog.mainIs = some (Rows.fileWrongCard.stood.harness.1, Rows.fileWrongCard.stood.harness.2.toList) := by kernel_rfl
theorem k_looks : Rows.fileWrongCard.stood.looks = Tryz.prog.looks [] := by kernel_rfl
end Go.Proofs.YtankkegoeocobaaGreatDoor
