/- SniffKinds, whatever the file: by runs with signs. -/
import Derived.Test.YtohbeinhlhgfiaaGreatDoorIR
import Derived.ChangeMaps5
import Derived.Test.YtohbeinhlhgfiaaGreatDoorKSniffKinds
import Derived.Test.YtohbeinhlhgfiaaGreatDoorKg
import Derived.Test.YtohbeinhlhgfiaaGreatDoorTie
namespace Go.Proofs.YtohbeinhlhgfiaaGreatDoor.sniffKinds
open Go Go.Rf Go.RowKit
set_option linter.unusedVariables false
set_option linter.unusedSimpArgs false
/- signs: 0 the file, 1 its size, 2 its kind -/
def t0 : Told:={ b:=[(.gtr,.sym 1,lI 1000,lB true)],l:=[(0,.sym 1)] }
def t1 (v : Bool) : Told:={ b:=[(.gtr,.sym 1,lI 1000,lB false),(.eql,.sym 2,.sym 2,lB true),(.neq,.sym 2,lI 0,lB v)],l:=[(0,.sym 1)],c:=[(7,[.a (.sym 0)],.t [.a (.sym 2),.a (lB v)]),(8,[.a (.sym 0)],one1 (.sym 2))] }
theorem r0 : symEv t0 3 [.a (.sym 0)] = some (one1 (lB true)):=by kernel_rfl
theorem r1 (v : Bool) : symEv (t1 v) 3 [.a (.sym 0)] = some (one1 (lB true)):=by cases v <;> kernel_rfl
theorem sx_small (l : List UInt8) (h : l.length ≤ 1000) : (sxM l).1.length ≤ 1000000:=by
 have hw : ∀ big,Short (tokW big):=fun big=>by
  cases big with
  | false=>exact short_C 8
  | true=>exact short_C 9
 rcases mark_or l with ⟨_,h1⟩ | ⟨_,_,h1⟩ | ⟨_,_,h1⟩ | ⟨_,_,h1⟩
 · rw [h1];omega
 · rw [h1,List.length_drop];omega
 · rw [h1];have:=decT_short (hw false) (l.drop 2);rw [List.length_drop] at this;omega
 · rw [h1];have:=decT_short (hw true) (l.drop 2);rw [List.length_drop] at this;omega
theorem walk (b : ByteArray) (w0 : b.size ≤ maxLen) (w : World) (hG : GW w) : Calls Tryz.prog 3 #[.string b] w fun e w'=>e = .returned (.bool true) ∧ Below w.heap.size w w':=by
 letI:=sgL [.string b,.int .i64 b.size,.int .i64 (kindR (bl b))] ⟨okS_str _,okS_int _ _,okS_int _ _,trivial⟩
 have hL : AllP LenOk [((0 : Nat),At.sym 1)]:=⟨⟨b,rfl,fun _=>rfl⟩,trivial⟩
 by_cases hs : b.size > 1000
 · exact sym_to (vals:=[.string b]) hG (T:=t0) ⟨⟨bok_gtr (a:=b.size) (c:=1000) (k:=.i64) (fun _=>rfl) (fun _=>rfl) (by simp;omega),trivial⟩,trivial,trivial,hL,trivial,trivial,trivial⟩ rfl r0 (fun _=>rfl)
 · have h1 : ∀ w',Below w.heap.size w w' → Calls Tryz.prog 7 #[.string b] w' fun e w''=>e = .returned (.tuple #[.int .i64 (kindR (bl b)),.bool (kindR (bl b) != 0)]) ∧ Below w'.heap.size w' w'':=fun w' hb=>by
    have:=kind_any b w' (hG.bel hb) (by omega) (sx_small _ (by rw [bl_length];omega))
    rwa [kindR_eq] at this
   exact sym_to (vals:=[.string b]) hG (T:=t1 (kindR (bl b) != 0)) ⟨⟨bok_gtr (a:=b.size) (c:=1000) (k:=.i64) (fun _=>rfl) (fun _=>rfl) (by simp;omega),bok_eql (a:=kindR (bl b)) (c:=kindR (bl b)) (k:=.i64) (fun _=>rfl) (fun _=>rfl) (by simp),bok_neq (a:=kindR (bl b)) (c:=0) (k:=.i64) (fun _=>rfl) (fun _=>rfl) rfl,trivial⟩,trivial,trivial,hL,
    ⟨⟨[.string b],_,fun _=>rfl,fun _=>rfl,h1⟩,⟨[.string b],_,fun _=>rfl,fun _=>rfl,fun w' hb=>rkindf_any b w' (hG.bel hb) (by omega)⟩,trivial⟩,trivial,trivial⟩ rfl (r1 _) (fun _=>rfl)
end Go.Proofs.YtohbeinhlhgfiaaGreatDoor.sniffKinds
namespace Go.Proofs.YtohbeinhlhgfiaaGreatDoor.sniffKinds
open Go.ChangeShapes Go.WideShapes Go.ChangeAt Go.RowKit Go.Lib Go.ChangeMaps
set_option linter.unusedVariables false
set_option linter.unusedSimpArgs false
abbrev laidL : List (String × DataW Unit):=[("math/bits.deBruijn32tab", Rows.laid_math_bits_deBruijn32tab),("unicode/utf8.acceptRanges", Rows.laid_unicode_utf8_acceptRanges),("diacritic/sniff.starts", Rows.laid_diacritic_sniff_starts),("unicode/utf8.first", Rows.laid_unicode_utf8_first)]
theorem laidL_met (os : Os) (args : Array Value) : laidMetH Tryz.prog laidL ((World.laidAll Tryz.prog os laidL).forCall (fun _ _=>0) ⟨#[],args,[]⟩).memory:=by
 rw [MakeChecks.laidMetH_plain _ _ _ (by kernel_rfl)]
 exact laidMet_laidAll _ (by kernel_rfl) (by kernel_rfl)
theorem laidL_shaped (os : Os) (args : Array Value) : ((World.laidAll Tryz.prog os laidL).forCall (fun _ _=>0) ⟨#[],args,[]⟩).Shaped Tryz.prog:=World.shaped_of_ZipB (by kernel_rfl) (by kernel_rfl)
set_option maxRecDepth 100000 in
theorem lifted (os : Os) (started : os.Started) (H : Type) (enc : TypeId × Value → H) :
 ReturnsInHanded {} Tryz.checked os 3 .any (fun w args=>(Rows.sniffKindsSpec.pre enc Tryz.prog Tryz.f3 Rows.sniffKindsRow.domain false w args ∧ laidMetH Tryz.prog laidL w) ∧ sizedMet enc Tryz.prog Tryz.f3 (OpenSpec.ofChange Rows.sniffKindsSpec) false w args) (Rows.sniffKindsSpec.post enc Tryz.prog Tryz.f3 false true false false):=by
 refine handed_laid_shaped (C:=Tryz.checked) (X:=fun w=>laidMetH Tryz.prog laidL w) (fun _ _ hh h=>h.of_heap hh) own started (by kernel_rfl) Tryz.func3
  (ChangeSpec.witness_shaped (enc:=enc) (C:=Tryz.checked) (os:=os) (X:=fun w _=>laidMetH Tryz.prog laidL w) false (World.laidAll Tryz.prog os laidL) #[.string ByteArray.empty] 8 (World.laidAll_os _ _ _) (laidL_shaped os _) (by kernel_rfl) (by kernel_rfl) (by kernel_rfl) (laidL_met os _)) ?_
 intro W base args ds gs before hval0 hW hL hsh
 rw [MakeChecks.laidMetH_plain _ _ _ (by kernel_rfl)] at hL
 have hT:=gw_of (Lib.laidMet.reads hL (n:= "math/bits.deBruijn32tab") (.head _)) (Lib.laidMet.reads hL (n:= "unicode/utf8.acceptRanges") (.tail _ (.head _))) (Lib.laidMet.reads hL (n:= "unicode/utf8.first") (.tail _ (.tail _ (.tail _ (.head _))))) (Lib.laidMet.reads hL (n:= "diacritic/sniff.starts") (.tail _ (.tail _ (.head _)))) hsh
 have hval : ∀ (j : Nat) t v,Tryz.f3.params[j]? = some t → args[j]? = some v → Value.okWide Tryz.prog W .any base t v:=hval0
 have hW':=hW
 obtain ⟨p,q,hA0,hV,rfl,hfz,hnd⟩:=hW
 have hA : DataW.TrodAll enc Tryz.prog W 0 (fun _=>true) true Tryz.f3.params.toList args.toList ds p:=hA0
 rw [Tryz.params3] at hA hval
 obtain ⟨v0,vs0,d0,ds0,p0,q0,hargs,rfl,rfl,h0,r0⟩:=trodAll_cons hA
 obtain ⟨rfl,rfl,rfl⟩:=trodAll_nil r0
 obtain rfl : args = #[v0]:=by cases args;simp_all
 obtain ⟨rfl,rfl⟩:=trodVars_none hV
 obtain ⟨a0,rfl,rfl,rfl,w0⟩:=open_string Tryz.underlying9 (hval 0 9 v0 rfl rfl) h0
 clear hA0 hval0
 simp only [List.append_nil] at hW'
 refine (walk a0 w0 W hT).mono fun e W' ⟨he,hg⟩=>?_
 subst he
 exact ⟨_,rfl,post_below (pa:=[]) (pv:=[]) hW' (trodAll_cons_mk (shut_bool Tryz.underlying4 _) trodAll_mk0) (trodAll_cons_mk (shut_string Tryz.underlying9 w0) trodAll_mk0) rfl hg⟩
theorem over : Rows.sniffKindsRow.holds Tryz.pinned (OpenSpec.ofChange Rows.sniffKindsSpec):=
 OpenClaim.holds_of_wide 3 Tryz.f3 rfl rfl rfl rfl rfl rfl rfl ⟨rfl,rfl,rfl,rfl,rfl⟩ rfl rfl rfl rfl rfl k_named Tryz.func3 k_joined (of_decide_eq_true (by kernel_rfl)) k_wrap
  (fun os started H enc _=>lifted os started H enc)
theorem proved : Rows.SniffKindsCardSaid:=
 Claim7.holds_tied_plain_at .later [] [.data,.data,.data,.pinned] true Rows.sniffKindsCard.stood.harness Rows.sniffKindsCard.stood.looks over (fun _ h=>by cases h) k_wf (fun _ h=>by cases h) sniffKinds_row_tie rfl ⟨rfl,rfl⟩ k_main rfl
  (fun f fn hf hfn=>by
    obtain rfl : f = 3:=Option.some.inj (k_named.symm.trans hf) |>.symm
    obtain rfl : fn = Tryz.f3:=(Option.some.inj (Tryz.func3.symm.trans hfn)).symm
    exact ⟨k_looks,fun j t ht=>by
     rw [Tryz.params3] at ht
     have hm : t ∈ [9]:=by simpa using Array.mem_of_getElem? ht
     exact (show Tryz.prog.wantsStandIn t = false by simpa using List.all_eq_true.1 k_stand t hm)⟩)
  k_goes
#print axioms proved
end Go.Proofs.YtohbeinhlhgfiaaGreatDoor.sniffKinds
