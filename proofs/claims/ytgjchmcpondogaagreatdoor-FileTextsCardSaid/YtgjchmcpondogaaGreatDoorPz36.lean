/- Pz36 -/
import Derived.Test.YtgjchmcpondogaaGreatDoorCards
import Derived.KernelRfl
import Derived.Test.YtgjchmcpondogaaGreatDoorP0
set_option linter.all false
set_option maxRecDepth 100000
set_option maxHeartbeats 40000000
namespace Go.Proofs.YtgjchmcpondogaaGreatDoor
theorem yJ4{P:Program}(h:(P.funcs.toList.all fun fn=>!fn.goes)=true)(f:FuncId):P.goes f=false:=by
 have hall:∀fn∈P.funcs.toList,fn.goes=false:=fun fn hm=>by simpa using List.all_eq_true.1 h fn hm
 unfold Program.goes;rw[Bool.or_eq_false_iff]
 constructor
 · rw[List.any_eq_false]
   intro g _;cases hg:P.funcs[g]? with
   | none=>simp
   | some fn=>
    have:=hall fn (Array.mem_toList_iff.2 (Array.mem_of_getElem? hg));simp[this]
 · have:P.funcs.any Func.goes=false:=by
    rw[←Array.any_toList,List.any_eq_false];intro fn hm;simp[hall fn hm]
   rw[this,Bool.and_false]
theorem yF4{P:Program}(h:(P.funcs.toList.all fun fn=>!fn.goes)=true)(c:OpenClaim)(hs:c.start=.entering):false=c.goesBy P:=by
 unfold OpenClaim.goesBy Program.goesAt Program.goesFrom;rw[hs];cases P.funcNamed c.func with
 | none=>rfl
 | some f=>simp[yJ4 h f]
theorem yHP:(Tryz.prog.funcs.toList.all fun fn=>!fn.goes)=true:=by kernel_rfl
end Go.Proofs.YtgjchmcpondogaaGreatDoor
namespace Go.Proofs.YtgjchmcpondogaaGreatDoor
open Go.ChangeShapes Go.WideShapes Go.ChangeAt Go.RowKit
theorem k_main:Tryz.prog.mainIs=some (Rows.topTextsCard.stood.harness.1,Rows.topTextsCard.stood.harness.2.toList):=by kernel_rfl
theorem yIy:Rows.topTextsCard.stood.looks=Tryz.prog.looks []:=by kernel_rfl
end Go.Proofs.YtgjchmcpondogaaGreatDoor
