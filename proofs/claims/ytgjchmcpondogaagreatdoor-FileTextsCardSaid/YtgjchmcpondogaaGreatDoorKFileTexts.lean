/- KFileTexts -/
import Derived.Test.YtgjchmcpondogaaGreatDoorP0
import Derived.Test.YtgjchmcpondogaaGreatDoorPz36
set_option linter.all false
set_option maxRecDepth 100000
set_option maxHeartbeats 40000000
namespace Go.Proofs.YtgjchmcpondogaaGreatDoor.fileTexts
open Go.ChangeShapes Go.WideShapes Go.ChangeAt Go.RowKit
theorem k_named:Tryz.prog.funcNamed Rows.fileTextsRow.func=some 4:=by kernel_rfl
theorem k_joined:joinedFacts Tryz.prog 4 Tryz.f4 Rows.fileTextsSpec Rows.fileTextsRow=true:=by
 unfold joinedFacts;simp only[Bool.and_eq_true]
 repeat' apply And.intro
 all_goals (as_aux_lemma=>kernel_rfl)
theorem k_wrap:Tryz.f4.isWrapper Tryz.prog Rows.fileTextsRow.wrapper Rows.fileTextsRow.mainSum:=by
 unfold Func.isWrapper;first|(rw[if_pos (by decide +kernel)];kernel_rfl)|(rw[if_neg (by decide +kernel)];exact⟨rfl,rfl⟩)
theorem k_wf:Rows.fileTextsRow.wfByText (OpenSpec.ofChange Rows.fileTextsSpec)=true:=by kernel_rfl
theorem k_goes:false=Rows.fileTextsRow.goesBy Tryz.prog:=yF4 yHP _ rfl
theorem k_stand:([9,5].all fun u=>!Tryz.prog.wantsStandIn u)=true:=by kernel_rfl
end Go.Proofs.YtgjchmcpondogaaGreatDoor.fileTexts
