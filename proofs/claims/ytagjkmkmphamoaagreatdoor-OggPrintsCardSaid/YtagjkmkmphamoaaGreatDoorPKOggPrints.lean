/- KOggPrints -/
import Derived.Test.YtagjkmkmphamoaaGreatDoorPF0
set_option linter.all false
set_option maxHeartbeats 40000000
namespace Go.Proofs.YtagjkmkmphamoaaGreatDoor.oggPrints
open Go.ChangeShapes Go.WideShapes Go.ChangeAt Go.RowKit
theorem k_named:Tryz.prog.funcNamed Rows.oggPrintsRow.func=some 3:=by kernel_rfl
theorem k_joined:joinedFacts Tryz.prog 3 Tryz.f3 Rows.oggPrintsSpec Rows.oggPrintsRow=true:=by
 unfold joinedFacts;simp only[Bool.and_eq_true]
 repeat' apply And.intro
 all_goals (as_aux_lemma=>kernel_rfl)
theorem k_wrap:Tryz.f3.isWrapper Tryz.prog Rows.oggPrintsRow.wrapper Rows.oggPrintsRow.mainSum:=by
 unfold Func.isWrapper;first|(rw[if_pos (by decide +kernel)];kernel_rfl)|(rw[if_neg (by decide +kernel)];exact⟨rfl,rfl⟩)
theorem k_wf:Rows.oggPrintsRow.wfByText (OpenSpec.ofChange Rows.oggPrintsSpec)=true:=by kernel_rfl
theorem k_goes:false=Rows.oggPrintsRow.goesBy Tryz.prog:=by kernel_rfl
theorem k_stand:([36,3,4].all fun u=>!Tryz.prog.wantsStandIn u)=true:=by kernel_rfl
end Go.Proofs.YtagjkmkmphamoaaGreatDoor.oggPrints
