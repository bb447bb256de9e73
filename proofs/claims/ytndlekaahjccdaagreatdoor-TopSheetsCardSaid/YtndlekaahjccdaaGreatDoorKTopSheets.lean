/- KTopSheets -/
import Derived.Test.YtndlekaahjccdaaGreatDoorP0
import Derived.Test.YtndlekaahjccdaaGreatDoorPz39
set_option linter.all false
set_option maxRecDepth 100000
set_option maxHeartbeats 40000000
namespace Go.Proofs.YtndlekaahjccdaaGreatDoor.topSheets
open Go.ChangeShapes Go.WideShapes Go.ChangeAt Go.RowKit
theorem k_named:Tryz.prog.funcNamed Rows.topSheetsRow.func=some 3:=by kernel_rfl
theorem k_joined:joinedFacts Tryz.prog 3 Tryz.f3 Rows.topSheetsSpec Rows.topSheetsRow=true:=by
 unfold joinedFacts;simp only[Bool.and_eq_true]
 repeat' apply And.intro
 all_goals (as_aux_lemma=>kernel_rfl)
theorem k_wrap:Tryz.f3.isWrapper Tryz.prog Rows.topSheetsRow.wrapper Rows.topSheetsRow.mainSum:=by
 unfold Func.isWrapper;first|(rw[if_pos (by decide +kernel)];kernel_rfl)|(rw[if_neg (by decide +kernel)];exact⟨rfl,rfl⟩)
theorem k_wf:Rows.topSheetsRow.wfByText (OpenSpec.ofChange Rows.topSheetsSpec)=true:=by kernel_rfl
theorem k_goes:false=Rows.topSheetsRow.goesBy Tryz.prog:=yFf yI3 _ rfl
theorem k_stand:([9,5,25].all fun u=>!Tryz.prog.wantsStandIn u)=true:=by kernel_rfl
