/- Kz -/
import Derived.Test.YtmfjmgjhfplijaaGreatDoorCards
import Derived.Test.YtmfjmgjhfplijaaGreatDoorMFr
set_option linter.unusedVariables false
set_option linter.unusedSimpArgs false
namespace Go.Proofs.YtmfjmgjhfplijaaGreatDoor
open Go.ChangeShapes Go.WideShapes Go.ChangeAt Go.RowKit
theorem k_main : Tryz.prog.mainIs = some (Rows.flacReadsCard.stood.harness.1,Rows.flacReadsCard.stood.harness.2.toList):=by kernel_rfl
theorem k_looks : false = Tryz.prog.looks []:=by kernel_rfl
end Go.Proofs.YtmfjmgjhfplijaaGreatDoor
