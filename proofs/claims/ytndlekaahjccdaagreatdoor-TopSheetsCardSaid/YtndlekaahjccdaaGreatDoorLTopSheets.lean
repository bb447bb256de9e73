/- LTopSheets -/
import Derived.ChangeMaps5
import Derived.Test.YtndlekaahjccdaaGreatDoorKTopSheets
import Derived.Test.YtndlekaahjccdaaGreatDoorPz38
import Derived.Test.YtndlekaahjccdaaGreatDoorPz39
import Derived.Test.YtndlekaahjccdaaGreatDoorTie
set_option linter.all false
set_option maxRecDepth 100000
set_option maxHeartbeats 40000000
namespace Go.Proofs.YtndlekaahjccdaaGreatDoor.topSheets
open Go.ChangeShapes Go.WideShapes Go.ChangeAt Go.RowKit Go.Lib Go.ChangeMaps
abbrev yAB:List (String×DataW Unit):=[("math/bits.deBruijn32tab", Rows.laid_math_bits_deBruijn32tab),("unicode/utf8.acceptRanges", Rows.laid_unicode_utf8_acceptRanges),("diacritic/sniff.starts", Rows.laid_diacritic_sniff_starts),("unicode/utf8.first", Rows.laid_unicode_utf8_first)]
theorem yFP(os:Os)(args:Array Value):laidMetH Tryz.prog yAB ((World.laidAll Tryz.prog os yAB).forCall (fun _ _=>0) ⟨#[],args,[]⟩).memory:=by
 rw[MakeChecks.laidMetH_plain _ _ _ (by kernel_rfl)];exact laidMet_laidAll _ (by kernel_rfl) (by kernel_rfl)
theorem y8k(os:Os)(args:Array Value):((World.laidAll Tryz.prog os yAB).forCall (fun _ _=>0) ⟨#[],args,[]⟩).Shaped Tryz.prog:=World.shaped_of_ZipB (by kernel_rfl) (by kernel_rfl)
theorem lifted(os:Os)(started:os.Started)(H:Type)(enc:TypeId×Value->H):
 ReturnsInHanded {} Tryz.checked os 3 .any (fun w args=>(Rows.topSheetsSpec.pre enc Tryz.prog Tryz.f3 Rows.topSheetsRow.domain false w args/\laidMetH Tryz.prog yAB w)/\sizedMet enc Tryz.prog Tryz.f3 (OpenSpec.ofChange Rows.topSheetsSpec) false w args) (Rows.topSheetsSpec.post enc Tryz.prog Tryz.f3 false true false false):=by
 refine y3H (C:=Tryz.checked) (X:=fun w=>laidMetH Tryz.prog yAB w) (fun _ _ hh h=>h.of_heap hh) own started (by kernel_rfl) Tryz.func3
  (ChangeSpec.witness_shaped (enc:=enc) (C:=Tryz.checked) (os:=os) (X:=fun w _=>laidMetH Tryz.prog yAB w) false (World.laidAll Tryz.prog os yAB) #[.string ByteArray.empty,.int .u8 0,.agg #[.int .i64 0,.int .i64 0,.bool false,.int .i64 0]] 8 (World.laidAll_os _ _ _) (y8k os _) (by kernel_rfl) (by kernel_rfl) (by kernel_rfl) (yFP os _)) ?_
 intro W base args ds gs before hval0 hW hL hsh;rw[MakeChecks.laidMetH_plain _ _ _ (by kernel_rfl)]at hL;have hT:=gw_of (Lib.laidMet.reads hL (n:= "math/bits.deBruijn32tab") (.head _)) (Lib.laidMet.reads hL (n:= "unicode/utf8.acceptRanges") (.tail _ (.head _))) (Lib.laidMet.reads hL (n:= "unicode/utf8.first") (.tail _ (.tail _ (.tail _ (.head _))))) (Lib.laidMet.reads hL (n:= "diacritic/sniff.starts") (.tail _ (.tail _ (.head _)))) hsh;have hval:∀(j:Nat) t v,Tryz.f3.params[j]?=some t->args[j]?=some v->Value.okWide Tryz.prog W .any base t v:=hval0;have hW':=hW;obtain⟨p,q,hA0,hV,rfl,hfz,hnd⟩:=hW;have hA:DataW.TrodAll enc Tryz.prog W 0 (fun _=>true) true Tryz.f3.params.toList args.toList ds p:=hA0;rw[Tryz.params3]at hA hval;obtain⟨v0,vs0,d0,ds0,p0,q0,hargs,rfl,rfl,h0,r0⟩:=trodAll_cons hA;obtain⟨v1,vs1,d1,ds1,p1,q1,rfl,rfl,rfl,h1,r1⟩:=trodAll_cons r0;obtain⟨v2,vs2,d2,ds2,p2,q2,rfl,rfl,rfl,h2,r2⟩:=trodAll_cons r1;obtain⟨rfl,rfl,rfl⟩:=trodAll_nil r2;obtain rfl:args=#[v0,v1,v2]:=by cases args;simp_all
 obtain⟨rfl,rfl⟩:=trodVars_none hV;obtain⟨a0,rfl,rfl,rfl,w0⟩:=open_string Tryz.underlying9 (hval 0 9 v0 rfl rfl) h0;obtain⟨a1,rfl,rfl,rfl,w1⟩:=open_int Tryz.underlying5 (hval 1 5 v1 rfl rfl) h1;have h2k:=h2;obtain⟨a2,b2,c2,g2,rfl⟩:=yEj (hval 2 25 v2 rfl rfl) h2;have w2:True:=trivial;clear hA0 hval0;simp only[List.append_nil]at hW';refine(walk a0 a1 a2 b2 g2 c2 w0 w1 w2 W hT).mono fun e W' ⟨he,hg⟩=>?_
 subst he;have T2:=Below.trod (W':=W') (by kernel_rfl) (by kernel_rfl) (of_decide_eq_true (by kernel_rfl)) h2k hg (fun x hx=>by simpa using hW'.lt x (by simp[hx]));exact⟨_,rfl,yCX (pa:=_) (pv:=[]) hW' (trodAll_cons_mk (shut_bool Tryz.underlying4 _) trodAll_mk0) (trodAll_cons_mk (shut_string Tryz.underlying9 w0) (trodAll_cons_mk (shut_int Tryz.underlying5 w1) (trodAll_cons_mk T2 trodAll_mk0))) rfl hg⟩
theorem over:Rows.topSheetsRow.holds Tryz.pinned (OpenSpec.ofChange Rows.topSheetsSpec):=
 OpenClaim.holds_of_wide 3 Tryz.f3 rfl rfl rfl rfl rfl rfl rfl ⟨rfl,rfl,rfl,rfl,rfl⟩ rfl rfl rfl rfl rfl k_named Tryz.func3 k_joined (of_decide_eq_true (by kernel_rfl)) k_wrap
  (fun os started H enc _=>lifted os started H enc)
theorem proved:Rows.TopSheetsCardSaid:=
 Claim7.holds_tied_plain_at .later [] [.data,.data,.data,.pinned] true Rows.topSheetsCard.stood.harness Rows.topSheetsCard.stood.looks over (fun _ h=>by cases h) k_wf (fun _ h=>by cases h) topSheets_row_tie rfl ⟨rfl,rfl⟩ k_main rfl
  (fun f fn hf hfn=>by
    obtain rfl:f=3:=Option.some.inj (k_named.symm.trans hf) |>.symm;obtain rfl:fn=Tryz.f3:=(Option.some.inj (Tryz.func3.symm.trans hfn)).symm;exact⟨yJk,fun j t ht=>by
     rw[Tryz.params3]at ht;have hm:t ∈ [9,5,25]:=by simpa using Array.mem_of_getElem? ht
     exact(show Tryz.prog.wantsStandIn t=false by simpa using List.all_eq_true.1 k_stand t hm)⟩)
  k_goes
#print axioms proved
