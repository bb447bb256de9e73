/- Closed facts of the program that each card asks. -/
import Derived.Test.YtogknbpmgflpgaaGreatDoorFr
import Derived.Test.YtogknbpmgflpgaaGreatDoorCards
namespace Go.Proofs.YtogknbpmgflpgaaGreatDoor
open Go.ChangeShapes Go.WideShapes Go.ChangeAt Go.RowKit
theorem k_main : Tryz.prog.mainIs = some (Rows.commentTwiceCard.stood.harness.1, Rows.commentTwiceCard.stood.harness.2.toList) := by kernel_rfl
theorem k_looks : false = Tryz.prog.looks [] := by kernel_rfl
end Go.Proofs.YtogknbpmgflpgaaGreatDoor
