/- LFileTexts -/
import Derived.ChangeMaps5
import Derived.Test.YtgjchmcpondogaaGreatDoorKFileTexts
import Derived.Test.YtgjchmcpondogaaGreatDoorPz42
import Derived.Test.YtgjchmcpondogaaGreatDoorPz36
import Derived.Test.YtgjchmcpondogaaGreatDoorTie
set_option linter.all false
set_option maxRecDepth 100000
set_option maxHeartbeats 40000000
namespace Go.Proofs.YtgjchmcpondogaaGreatDoor.fileTexts
open Go.ChangeShapes Go.WideShapes Go.ChangeAt Go.RowKit Go.Lib Go.ChangeMaps
abbrev y9l:List (String×DataW Unit):=[("math/bits.deBruijn32tab", Rows.laid_math_bits_deBruijn32tab),("unicode/utf8.acceptRanges", Rows.laid_unicode_utf8_acceptRanges),("diacritic/sniff.starts", Rows.laid_diacritic_sniff_starts),("unicode/utf8.first", Rows.laid_unicode_utf8_first)]
theorem yEo(os:Os)(args:Array Value):laidMetH Tryz.prog y9l ((World.laidAll Tryz.prog os y9l).forCall (fun _ _=>0) ⟨#[],args,[]⟩).memory:=by
 rw[MakeChecks.laidMetH_plain _ _ _ (by kernel_rfl)];exact laidMet_laidAll _ (by kernel_rfl) (by kernel_rfl)
theorem y8Q(os:Os)(args:Array Value):((World.laidAll Tryz.prog os y9l).forCall (fun _ _=>0) ⟨#[],args,[]⟩).Shaped Tryz.prog:=World.shaped_of_ZipB (by kernel_rfl) (by kernel_rfl)
theorem lifted(os:Os)(started:os.Started)(H:Type)(enc:TypeId×Value→H):
 ReturnsInHanded {} Tryz.checked os 4 .any (fun w args=>(Rows.fileTextsSpec.pre enc Tryz.prog Tryz.f4 Rows.fileTextsRow.domain false w args∧laidMetH Tryz.prog y9l w)∧sizedMet enc Tryz.prog Tryz.f4 (OpenSpec.ofChange Rows.fileTextsSpec) false w args) (Rows.fileTextsSpec.post enc Tryz.prog Tryz.f4 false true false false):=by
 refine y39 (C:=Tryz.checked) (X:=fun w=>laidMetH Tryz.prog y9l w) (fun _ _ hh h=>h.of_heap hh) own started (by kernel_rfl) Tryz.func4
  (ChangeSpec.witness_shaped (enc:=enc) (C:=Tryz.checked) (os:=os) (X:=fun w _=>laidMetH Tryz.prog y9l w) false (World.laidAll Tryz.prog os y9l) #[.string ByteArray.empty,.int .u8 0] 8 (World.laidAll_os _ _ _) (y8Q os _) (by kernel_rfl) (by kernel_rfl) (by kernel_rfl) (yEo os _)) ?_
 intro W base args ds gs before hval0 hW hL hsh;rw[MakeChecks.laidMetH_plain _ _ _ (by kernel_rfl)]at hL;have hT:=gw_of (Lib.laidMet.reads hL (n:= "math/bits.deBruijn32tab") (.head _)) (Lib.laidMet.reads hL (n:= "unicode/utf8.acceptRanges") (.tail _ (.head _))) (Lib.laidMet.reads hL (n:= "unicode/utf8.first") (.tail _ (.tail _ (.tail _ (.head _))))) (Lib.laidMet.reads hL (n:= "diacritic/sniff.starts") (.tail _ (.tail _ (.head _)))) hsh;have hval:∀(j:Nat) t v,Tryz.f4.params[j]?=some t→args[j]?=some v→Value.okWide Tryz.prog W .any base t v:=hval0;have hW':=hW;obtain⟨p,q,hA0,hV,rfl,hfz,hnd⟩:=hW;have hA:DataW.TrodAll enc Tryz.prog W 0 (fun _=>true) true Tryz.f4.params.toList args.toList ds p:=hA0;rw[Tryz.params4]at hA hval;obtain⟨v0,vs0,d0,ds0,p0,q0,hargs,rfl,rfl,h0,r0⟩:=trodAll_cons hA;obtain⟨v1,vs1,d1,ds1,p1,q1,rfl,rfl,rfl,h1,r1⟩:=trodAll_cons r0;obtain⟨rfl,rfl,rfl⟩:=trodAll_nil r1;obtain rfl:args=#[v0,v1]:=by cases args;simp_all
 obtain⟨rfl,rfl⟩:=trodVars_none hV;obtain⟨a0,rfl,rfl,rfl,w0⟩:=open_string Tryz.underlying9 (hval 0 9 v0 rfl rfl) h0;obtain⟨a1,rfl,rfl,rfl,w1⟩:=open_int Tryz.underlying5 (hval 1 5 v1 rfl rfl) h1;clear hA0 hval0;simp only[List.append_nil]at hW';refine(walk a0 a1 w0 w1 W hT).mono fun e W' ⟨he,hg⟩=>?_
 subst he;exact⟨_,rfl,yC2 (pa:=[]) (pv:=[]) hW' (trodAll_cons_mk (shut_bool Tryz.underlying4 _) trodAll_mk0) (trodAll_cons_mk (shut_string Tryz.underlying9 w0) (trodAll_cons_mk (shut_int Tryz.underlying5 w1) trodAll_mk0)) rfl hg⟩
theorem over:Rows.fileTextsRow.holds Tryz.pinned (OpenSpec.ofChange Rows.fileTextsSpec):=
 OpenClaim.holds_of_wide 4 Tryz.f4 rfl rfl rfl rfl rfl rfl rfl ⟨rfl,rfl,rfl,rfl,rfl⟩ rfl rfl rfl rfl rfl k_named Tryz.func4 k_joined (of_decide_eq_true (by kernel_rfl)) k_wrap
  (fun os started H enc _=>lifted os started H enc)
theorem proved:Rows.FileTextsCardSaid:=
 Claim7.holds_tied_plain_at .later [] [.data,.data,.data,.pinned] true Rows.fileTextsCard.stood.harness Rows.fileTextsCard.stood.looks over (fun _ h=>by cases h) k_wf (fun _ h=>by cases h) fileTexts_row_tie rfl ⟨rfl,rfl⟩ k_main rfl
  (fun f fn hf hfn=>by
    obtain rfl:f=4:=Option.some.inj (k_named.symm.trans hf) |>.symm;obtain rfl:fn=Tryz.f4:=(Option.some.inj (Tryz.func4.symm.trans hfn)).symm;exact⟨yIy,fun j t ht=>by
     rw[Tryz.params4]at ht;have hm:t ∈ [9,5]:=by simpa using Array.mem_of_getElem? ht
     exact(show Tryz.prog.wantsStandIn t=false by simpa using List.all_eq_true.1 k_stand t hm)⟩)
  k_goes
#print axioms proved
end Go.Proofs.YtgjchmcpondogaaGreatDoor.fileTexts
