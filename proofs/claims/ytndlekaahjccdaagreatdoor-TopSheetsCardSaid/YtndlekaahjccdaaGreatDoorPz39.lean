/- Pz39 -/
import Derived.Test.YtndlekaahjccdaaGreatDoorCards
import Derived.KernelRfl
import Derived.Test.YtndlekaahjccdaaGreatDoorP0
set_option linter.all false
set_option maxRecDepth 100000
set_option maxHeartbeats 40000000
namespace Go.Proofs.YtndlekaahjccdaaGreatDoor
section
theorem yJq{P:Program}(h:(P.funcs.toList.all fun fn=>!fn.goes)=true)(f:FuncId):P.goes f=false:=by
 have hall:∀fn∈P.funcs.toList,fn.goes=false:=fun fn hm=>by simpa using List.all_eq_true.1 h fn hm
 unfold Program.goes;rw[Bool.or_eq_false_iff];constructor
 . rw[List.any_eq_false]
   intro g _;cases hg:P.funcs[g]? with
   | none=>simp
   | some fn=>
    have:=hall fn (Array.mem_toList_iff.2 (Array.mem_of_getElem? hg));simp[this]
 . have:P.funcs.any Func.goes=false:=by
    rw[<-Array.any_toList,List.any_eq_false];intro fn hm;simp[hall fn hm]
   rw[this,Bool.and_false]
theorem yFf{P:Program}(h:(P.funcs.toList.all fun fn=>!fn.goes)=true)(c:OpenClaim)(hs:c.start=.entering):false=c.goesBy P:=by
 unfold OpenClaim.goesBy Program.goesAt Program.goesFrom;rw[hs];cases P.funcNamed c.func with
 | none=>rfl
 | some f=>simp[yJq h f]
theorem yI3:(Tryz.prog.funcs.toList.all fun fn=>!fn.goes)=true:=by kernel_rfl
end
open Go.ChangeShapes Go.WideShapes Go.ChangeAt Go.RowKit
theorem k_main:Tryz.prog.mainIs=some (Rows.topSheetsCard.stood.harness.1,Rows.topSheetsCard.stood.harness.2.toList):=by kernel_rfl
theorem yJk:Rows.topSheetsCard.stood.looks=Tryz.prog.looks []:=by kernel_rfl
