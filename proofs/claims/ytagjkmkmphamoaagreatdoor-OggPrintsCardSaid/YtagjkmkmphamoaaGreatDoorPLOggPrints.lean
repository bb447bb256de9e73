/- OggPrints: the statement (a tied card). Whatever the stream, the law's call returns true and leaves its arguments. The walk is in Yo; the row's closed facts in KOggPrints. -/
import Derived.Test.YtagjkmkmphamoaaGreatDoorPKOggPrints
import Derived.Test.YtagjkmkmphamoaaGreatDoorPYo
import Derived.Test.YtagjkmkmphamoaaGreatDoorTie
set_option linter.all false
namespace Go.Proofs.YtagjkmkmphamoaaGreatDoor.oggPrints
open Go.ChangeShapes Go.WideShapes Go.ChangeAt Go.RowKit Go.ChangeMaps
set_option maxRecDepth 100000 in
theorem lifted(os:Os)(started:os.Started)(H:Type)(enc:TypeId×Value→H):
 ReturnsInHanded {} Tryz.checked os 3 .any (fun w args=>(Rows.oggPrintsSpec.pre enc Tryz.prog Tryz.f3 Rows.oggPrintsRow.domain false w args∧laidMetH Tryz.prog laid3 w)∧sizedMet enc Tryz.prog Tryz.f3 (OpenSpec.ofChange Rows.oggPrintsSpec) false w args) (Rows.oggPrintsSpec.post enc Tryz.prog Tryz.f3 false true false false):=by
 refine jx5 (C:=Tryz.checked) (X:=fun w=>laidMetH Tryz.prog laid3 w) (fun _ _ hh h=>h.of_heap hh) own started (by kernel_rfl) Tryz.func3
  (ChangeSpec.witness_shaped (enc:=enc) (C:=Tryz.checked) (os:=os) (X:=fun w _=>laidMetH Tryz.prog laid3 w) false (World.laidAll Tryz.prog os laid3) #[.agg #[.int .u8 0,.int .u64 0,.int .u32 0,.int .u32 0,.string ByteArray.empty,.string ByteArray.empty,.string ByteArray.empty,.int .i64 0,.slice none 0 0,.string ByteArray.empty,.slice none 0 0],.int .i64 0,.bool false] 8 (World.laidAll_os _ _ _) (qs7 os _) (by kernel_rfl) (by kernel_rfl) (by kernel_rfl) (laid_met os _)) ?_
 intro W base args ds gs before hval0 hW hL hsh;have hT:=vd6 hL hsh;have hval:∀(j:Nat) t v,Tryz.f3.params[j]?=some t→args[j]?=some v→Value.okWide Tryz.prog W .any base t v:=hval0;have hW':=hW;obtain⟨p,q,hA0,hV,rfl,hfz,hnd⟩:=hW;have hA:DataW.TrodAll enc Tryz.prog W 0 (fun _=>true) true Tryz.f3.params.toList args.toList ds p:=hA0;rw[Tryz.params3]at hA hval;obtain⟨v0,vs0,d0,ds0,p0,q0,hargs,rfl,rfl,h0,r0⟩:=trodAll_cons hA;obtain⟨v1,vs1,d1,ds1,p1,q1,rfl,rfl,rfl,h1,r1⟩:=trodAll_cons r0;obtain⟨v2,vs2,d2,ds2,p2,q2,rfl,rfl,rfl,h2,r2⟩:=trodAll_cons r1;obtain⟨rfl,rfl,rfl⟩:=trodAll_nil r2;obtain rfl:args=#[v0,v1,v2]:=by cases args;simp_all
 obtain⟨rfl,rfl⟩:=trodVars_none hV;have h0k:=h0;obtain⟨a0,m0,b0,rfl,R0,w0⟩:=qr8 (hval 0 36 v0 rfl rfl) h0;obtain⟨a1,rfl,rfl,rfl,w1⟩:=open_int Tryz.underlying3 (hval 1 3 v1 rfl rfl) h1;obtain⟨a2,rfl,rfl,rfl⟩:=open_bool Tryz.underlying4 (hval 2 4 v2 rfl rfl) h2;clear hA0 hval0;simp only[List.append_nil]at hW';refine(walk m0 b0 a0 a1 a2 w0 w1 W R0 hT).mono fun e W' ⟨he,hg⟩=>?_
 subst he;have T0:=Below.trod (W':=W') (by kernel_rfl) (by kernel_rfl) (of_decide_eq_true (by kernel_rfl)) h0k hg (fun x hx=>by simpa using hW'.lt x (by simp[hx]));exact⟨_,rfl,vg0 (pa:=_) (pv:=[]) hW' (trodAll_cons_mk (shut_bool Tryz.underlying4 _) trodAll_mk0) (trodAll_cons_mk T0 (trodAll_cons_mk (shut_int Tryz.underlying3 w1) (trodAll_cons_mk (shut_bool Tryz.underlying4 a2) trodAll_mk0))) rfl hg⟩
theorem over:Rows.oggPrintsRow.holds Tryz.pinned (OpenSpec.ofChange Rows.oggPrintsSpec):=
 OpenClaim.holds_of_wide 3 Tryz.f3 rfl rfl rfl rfl rfl rfl rfl ⟨rfl,rfl,rfl,rfl,rfl⟩ rfl rfl rfl rfl rfl k_named Tryz.func3 k_joined (of_decide_eq_true (by kernel_rfl)) k_wrap
  (fun os started H enc _=>lifted os started H enc)
theorem proved:Rows.OggPrintsCardSaid:=
 Claim7.holds_tied_plain_at .later [] [.data,.data,.pinned] true Rows.oggPrintsCard.stood.harness Rows.oggPrintsCard.stood.looks over (fun _ h=>by cases h) k_wf (fun _ h=>by cases h) oggPrints_row_tie rfl ⟨rfl,rfl⟩ k_main rfl
  (fun f fn hf hfn=>by
    obtain rfl:f=3:=Option.some.inj (k_named.symm.trans hf) |>.symm;obtain rfl:fn=Tryz.f3:=(Option.some.inj (Tryz.func3.symm.trans hfn)).symm;exact⟨k_looks,fun j t ht=>by
     rw[Tryz.params3]at ht;have hm:t ∈ [36,3,4]:=by simpa using Array.mem_of_getElem? ht
     exact(show Tryz.prog.wantsStandIn t=false by simpa using List.all_eq_true.1 k_stand t hm)⟩)
  k_goes
#print axioms proved
end Go.Proofs.YtagjkmkmphamoaaGreatDoor.oggPrints
