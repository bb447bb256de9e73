/- Kz -/
import Derived.Test.YtnbglcaeekppjaaGreatDoorCards
import Derived.Test.YtnbglcaeekppjaaGreatDoorMFr
set_option linter.unusedVariables false
set_option linter.unusedSimpArgs false
namespace Go.Proofs.YtnbglcaeekppjaaGreatDoor
open Go.ChangeShapes Go.WideShapes Go.ChangeAt Go.RowKit
theorem k_main : Tryz.prog.mainIs = some (Rows.oggPrintsCard.stood.harness.1,Rows.oggPrintsCard.stood.harness.2.toList):=by kernel_rfl
theorem k_looks : false = Tryz.prog.looks []:=by kernel_rfl
end Go.Proofs.YtnbglcaeekppjaaGreatDoor
