/- F0 -/
import Derived.WalkKit
import Derived.ProofKit
import Derived.OpenShut
import Derived.LaidMore
import Derived.Lay
import Derived.Lib.LaidU8T
import Derived.Shelf.Vars
import Derived.Handed
import Derived.Stop.Joined
import Derived.Test.YtagjkmkmphamoaaGreatDoorRows
import Derived.Test.YtagjkmkmphamoaaGreatDoorPWo
import Derived.Test.YtagjkmkmphamoaaGreatDoorCards
set_option linter.all false
namespace Go.Proofs.YtagjkmkmphamoaaGreatDoor
open Go.ChangeShapes Go.WideShapes Go.ChangeAt Go.RowKit
theorem own:ownKnob Tryz.prog.godebug=none:=by kernel_rfl
theorem vg0{H:Type}{enc:TypeId×Value→H}{P:Program}{f:Func}{s:ChangeSpec}{W W':World}{args:Array Value}{v:Value}{ds gs:List (DataW H)}{before pa pv:List MemPlace}
 (hW:DataW.Whole enc P f.params.toList s.vars false W args.toList ds gs before)
 (hres:DataW.TrodAll enc P W' W.heap.size (fun _=>false) false f.resultTypes.toList (v.resultList f.resultTypes.size) (s.fn H (ds++gs)).results [])
 (hargs:DataW.TrodAll enc P W' 0 (fun b=>decide (b<W.heap.size)) true f.params.toList args.toList (s.fn H (ds++gs)).args pa)
 (hvars:DataW.TrodVars enc P W' (fun b=>decide (b<W.heap.size)) s.vars (s.fn H (ds++gs)).vars pv)
 (hb:Below W.heap.size W W'):s.post enc P f false true false false W args v W':=
 ⟨ds,gs,before,[],pa,pv,hW,hres,hargs,hvars,hb.frame _,fun h=>by cases h⟩
end Go.Proofs.YtagjkmkmphamoaaGreatDoor
namespace Go.Proofs.YtagjkmkmphamoaaGreatDoor
open Go.ChangeShapes Go.WideShapes Go.ChangeAt Go.RowKit Go.Shelf Go.Lib
theorem jx5{H:Type}{enc:TypeId×Value→H}{a:Assume}{C:Checked}{os:Os}{f:FuncId}{fn:Func}{s:ChangeSpec}{conds:List PathCond}{apart fresh handsOn again:Bool}{X:World→Prop}
 (hX:∀(w w':World),w.heap=w'.heap→X w→X w')
 (own:ownKnob C.prog.godebug=none) (started:os.Started) (noInit:C.prog.inits.idxOf? f=none) (hfn:C.prog.funcs[f]?=some fn)
 (witness:∃(w:World) (tape:Tape) (i:Input),w.os=os∧(w.forCall tape i).Shaped C.prog∧i.vars = []∧Input.okWide C.prog (w.forCall tape i) .any w.heap.size f i ∧
   ((s.pre enc C.prog fn conds apart (w.forCall tape i).memory i.args∧X (w.forCall tape i).memory)∧sizedMet enc C.prog fn (OpenSpec.ofChange s) apart (w.forCall tape i).memory i.args)∧a.holds C.prog (lone (Frame.enter C.prog f i.args .normal) [] (w.forCall tape i)))
 (contract:∀(W:World) (base:Nat) (args:Array Value) (ds gs:List (DataW H)) (before:List MemPlace),
   (∀(j:Nat) t v,fn.params[j]?=some t→args[j]?=some v→Value.okWide C.prog W .any base t v) →
   DataW.Whole enc C.prog fn.params.toList s.vars apart W args.toList ds gs before →
   X W→W.ShapedOpen C.prog →
   Calls C.prog f args W fun e W'=>∃v,e=.returned v∧s.post enc C.prog fn apart fresh handsOn again W args v W'):
 ReturnsInHanded a C os f .any (fun w args=>(s.pre enc C.prog fn conds apart w args∧X w)∧sizedMet enc C.prog fn (OpenSpec.ofChange s) apart w args) (s.post enc C.prog fn apart fresh handsOn again):=by
 refine returnsInHanded_of_calls own started noInit witness ?_;intro w tape i _ hsh _ hok hpre hholds;obtain⟨_,_,_,fn',hfn',_,_,_,_,hval⟩:=hok;have e:fn'=fn:=Option.some.inj (hfn'.symm.trans hfn);subst e;obtain⟨⟨⟨ds,gs,before,hw,hc⟩,hx⟩,hz⟩:=hpre;have hw':=DataW.Whole.of_heap (w':=w.forCall tape i) (by rfl) hw;refine(contract (w.forCall tape i) w.heap.size i.args ds gs before hval hw' (hX _ _ (by rfl) hx) hsh).mono fun e W' ⟨v,he,hp⟩=>?_
 subst he;exact ChangeSpec.post_blind hp
def tren:Ren:={ f:=fun x=>x,t:=fun x=>if x=5 then 5 else if x=119 then 168 else if x=138 then 170 else 171,g:=fun x=>if x=3 then 0 else 1 }
theorem tT:U8Types Tryz.prog tren:=⟨Tryz.underlying5,Tryz.underlying168,Tryz.underlying170,Tryz.underlying171⟩
theorem tX:U8Extra Tryz.prog tren:=⟨by kernel_rfl,by kernel_rfl,by kernel_rfl,by kernel_rfl,by kernel_rfl,by kernel_rfl,by kernel_rfl⟩
theorem first_eq:(Rows.laid_unicode_utf8_first:DataW Unit)=firstData:=by kernel_rfl
theorem xj4:(Rows.laid_unicode_utf8_acceptRanges:DataW Unit)=acceptData:=by kernel_rfl
theorem xh9:(Rows.laid_math_bits_deBruijn32tab:DataW Unit)=tabData .u8 (Lib.deBruijn32tab.map fun n=>((n:Nat):Int)):=by kernel_rfl
abbrev laid3:List (String×DataW Unit):=[("math/bits.deBruijn32tab", Rows.laid_math_bits_deBruijn32tab),("unicode/utf8.acceptRanges", Rows.laid_unicode_utf8_acceptRanges),("unicode/utf8.first", Rows.laid_unicode_utf8_first)]
theorem vd6{W:World}(h:laidMetH Tryz.prog laid3 W)(hsh:W.ShapedOpen Tryz.prog):TW W:=by
 rw[MakeChecks.laidMetH_plain _ _ _ (by kernel_rfl)]at h;have r1:=Lib.laidMet.reads h (n:= "math/bits.deBruijn32tab") (.head _);have r2:=Lib.laidMet.reads h (n:= "unicode/utf8.acceptRanges") (.tail _ (.head _));have r3:=Lib.laidMet.reads h (n:= "unicode/utf8.first") (.tail _ (.tail _ (.head _)));rw[xh9]at r1;rw[xj4]at r2;rw[first_eq]at r3;have hU:Lib.Utf8Tabs 0 1 W:=utf8Tabs_of_readsT tT tX r3 r2;have hdb:∀i,i<32→W.cell? ⟨3,i,none⟩=some (.int .u8 (Lib.deBruijn32tab.getD i 0:Nat)):=by
  intro i hi;obtain⟨g,t,cs,fuel,p,hg,hty,hvar,hd⟩:=r1;obtain rfl:=Option.some.inj ((show Tryz.prog.globalNamed "math/bits.deBruijn32tab" = some 3 by kernel_rfl).symm.trans hg);obtain rfl:=Option.some.inj ((show(Tryz.prog.globals[3]?).map (·.type)=some 285 by kernel_rfl).symm.trans hty);have hcs:=cells_of_tab Tryz.underlying285 Tryz.underlying5 (by kernel_rfl) (by kernel_rfl) hd;have hl:Lib.deBruijn32tab.length=32:=by kernel_rfl
  rw[World.var?_cell hg hvar i,←Array.getElem?_toList,hcs];simp[List.getD,hl,hi]
 have hml:∃m,W.cell? ⟨2,0,none⟩=some (.int .i64 m):=
  cell_of_shapedOpen_int (zero:=#[.int .i64 0]) (t:=3) hsh (by decide +kernel) (by kernel_rfl) rfl (by kernel_rfl) (by kernel_rfl) Tryz.underlying3
 refine⟨hU,hdb,hml,?_⟩;have:=jd2 (hdb 0 (by omega));omega
theorem laid_met(os:Os)(args:Array Value):laidMetH Tryz.prog laid3 ((World.laidAll Tryz.prog os laid3).forCall (fun _ _=>0) ⟨#[],args,[]⟩).memory:=by
 rw[MakeChecks.laidMetH_plain _ _ _ (by kernel_rfl)];exact laidMet_laidAll _ (by kernel_rfl) (by kernel_rfl)
theorem qs7(os:Os)(args:Array Value):((World.laidAll Tryz.prog os laid3).forCall (fun _ _=>0) ⟨#[],args,[]⟩).Shaped Tryz.prog:=World.shaped_of_ZipB (by kernel_rfl) (by kernel_rfl)
end Go.Proofs.YtagjkmkmphamoaaGreatDoor
namespace Go.Proofs.YtagjkmkmphamoaaGreatDoor
open Go.ChangeShapes Go.WideShapes Go.ChangeAt Go.RowKit
theorem k_main:Tryz.prog.mainIs=some (Rows.oggPrintsCard.stood.harness.1,Rows.oggPrintsCard.stood.harness.2.toList):=by kernel_rfl
theorem k_looks:Rows.oggPrintsCard.stood.looks=Tryz.prog.looks []:=by kernel_rfl
end Go.Proofs.YtagjkmkmphamoaaGreatDoor
