/- Closed facts of the program that each card asks. -/
import Derived.Test.YtjoechkdmdinoaaGreatDoorCards
import Derived.Test.YtjoechkdmdinoaaGreatDoorMFr
namespace Go.Proofs.YtjoechkdmdinoaaGreatDoor
open Go.ChangeShapes Go.WideShapes Go.ChangeAt Go.RowKit
theorem k_main : Tryz.prog.mainIs = some (Rows.sniffKindsCard.stood.harness.1, Rows.sniffKindsCard.stood.harness.2.toList) := by kernel_rfl
theorem k_looks : Rows.sniffKindsCard.stood.looks = Tryz.prog.looks [] := by kernel_rfl
end Go.Proofs.YtjoechkdmdinoaaGreatDoor
