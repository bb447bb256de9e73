/- PK -/
import Derived.Test.YtgjchmcpondogaaGreatDoorPJ
set_option linter.all false
set_option maxRecDepth 100000
set_option maxHeartbeats 40000000
namespace Go.Proofs.YtgjchmcpondogaaGreatDoor
open Go Go.Rf Go.RowKit
noncomputable def e1:Entry:=(92,[(.agg #[(.int .u8 0),(.int .u64 0),(.int .u32 0),(.int .u32 0),(.string ⟨#[]⟩),(.string ⟨#[]⟩)])],(.tuple #[(.string ⟨#[79,103,103,83,0,0,0,0,0,0,0,0,0,0,0,0,0,0,0,0,0,0,17,165,161,158,0]⟩),(.agg #[(.int .i64 0),(.int .i64 0)])]))
noncomputable def e2:Entry:=(92,[(.agg #[(.int .u8 2),(.int .u64 0),(.int .u32 0),(.int .u32 0),(.string ⟨#[7]⟩),(.string ⟨#[1,118,111,114,98,105,115]⟩)])],(.tuple #[(.string ⟨#[79,103,103,83,0,2,0,0,0,0,0,0,0,0,0,0,0,0,0,0,0,0,174,173,91,175,1,7,1,118,111,114,98,105,115]⟩),(.agg #[(.int .i64 0),(.int .i64 0)])]))
theorem b1_0:check Tryz.prog xt gk O0 60 [e1,e2]=true:=by kernel_rfl
noncomputable def e3:Entry:=(92,[(.agg #[(.int .u8 0),(.int .u64 0),(.int .u32 0),(.int .u32 1),(.string ⟨#[16,7]⟩),(.string ⟨#[3,118,111,114,98,105,115,0,0,0,0,0,0,0,0,1,5,118,111,114,98,105,115]⟩)])],(.tuple #[(.string ⟨#[79,103,103,83,0,0,0,0,0,0,0,0,0,0,0,0,0,0,1,0,0,0,89,53,95,38,2,16,7,3,118,111,114,98,105,115,0,0,0,0,0,0,0,0,1,5,118,111,114,98,105,115]⟩),(.agg #[(.int .i64 0),(.int .i64 0)])]))
noncomputable def e4:Entry:=(142,[],(.bool true))
noncomputable def e5:Entry:=(170,[(.agg #[(.int .u8 2),(.int .u64 0),(.int .u32 0),(.int .u32 0),(.string ⟨#[7]⟩),(.string ⟨#[1,118,111,114,98,105,115]⟩)])],(.int .u32 2942021038))
theorem b1_1:check Tryz.prog xt gk O0 60 [e3,e4,e5]=true:=by kernel_rfl
noncomputable def e6:Entry:=(170,[(.agg #[(.int .u8 0),(.int .u64 0),(.int .u32 0),(.int .u32 1),(.string ⟨#[16,7]⟩),(.string ⟨#[3,118,111,114,98,105,115,0,0,0,0,0,0,0,0,1,5,118,111,114,98,105,115]⟩)])],(.int .u32 643773785))
noncomputable def e7:Entry:=(241,[],(.bool true))
noncomputable def e8:Entry:=(242,[],(.bool true))
noncomputable def e9:Entry:=(246,[(.agg #[(.string ⟨#[97]⟩),(.string ⟨#[]⟩),(.string ⟨#[]⟩),(.string ⟨#[]⟩),(.string ⟨#[]⟩),(.int .u8 5),(.int .u8 17)])],(.tuple #[(.string ⟨#[84,65,71,97,0,0,0,0,0,0,0,0,0,0,0,0,0,0,0,0,0,0,0,0,0,0,0,0,0,0,0,0,0,0,0,0,0,0,0,0,0,0,0,0,0,0,0,0,0,0,0,0,0,0,0,0,0,0,0,0,0,0,0,0,0,0,0,0,0,0,0,0,0,0,0,0,0,0,0,0,0,0,0,0,0,0,0,0,0,0,0,0,0,0,0,0,0,0,0,0,0,0,0,0,0,0,0,0,0,0,0,0,0,0,0,0,0,0,0,0,0,0,0,0,0,0,5,17]⟩),(.agg #[(.int .i64 0),(.int .i64 0)])]))
theorem b1_2:check Tryz.prog xt gk O0 60 [e6,e7,e8,e9]=true:=by kernel_rfl
variable [Sym]
noncomputable def k1:KT:=(.b (.b (.b .e (.b .e (.b .e (.b (.b .e (.b (.b (.b (.l (.b (.b (.b (.b (.b (.b (.l [e1,e2,e3]) .e) .e) .e) .e) .e) .e)) .e) .e) .e)) .e)))) (.b (.b (.b .e (.b .e (.b .e (.b .e (.b (.b (.l (.b (.b (.b (.b (.b (.b (.l [e8]) .e) .e) .e) .e) .e) .e)) .e) .e))))) (.b (.b .e (.b (.b .e (.b (.b (.l (.b (.b (.b (.b (.b (.b (.l [e5,e6]) .e) .e) .e) .e) .e) .e)) .e) .e)) .e)) .e)) (.b (.b .e (.b .e (.b .e (.b .e (.b (.b (.l (.b (.b (.b (.b (.b (.b (.l [e9]) .e) .e) .e) .e) .e) .e)) .e) .e))))) (.b (.b (.b (.b .e (.b (.b (.l (.b (.b (.b (.b (.b (.b (.l [e4]) .e) .e) .e) .e) .e) .e)) .e) .e)) .e) .e) .e)))) (.b (.b (.b (.b .e (.b .e (.b .e (.b .e (.b (.b (.l (.b (.b (.b (.b (.b (.b (.l [e7]) .e) .e) .e) .e) .e) .e)) .e) .e))))) .e) .e) .e))
noncomputable def O1:Oracle:=O0.add k1
theorem k1_ok:KAll (EOk Tryz.prog xt gk O0 60) k1:=by
 obtain⟨c1,c2,_⟩:=zn b1_0;obtain⟨c3,c4,c5,_⟩:=zn b1_1;obtain⟨c6,c7,c8,c9,_⟩:=zn b1_2;exact⟨⟨⟨oT,⟨oT,⟨oT,⟨⟨oT,⟨⟨⟨⟨⟨⟨⟨⟨⟨⟨c1,c2,c3,oT⟩,oT⟩,oT⟩,oT⟩,oT⟩,oT⟩,oT⟩,oT⟩,oT⟩,oT⟩⟩,oT⟩⟩⟩⟩,⟨⟨⟨oT,⟨oT,⟨oT,⟨oT,⟨⟨⟨⟨⟨⟨⟨⟨⟨c8,oT⟩,oT⟩,oT⟩,oT⟩,oT⟩,oT⟩,oT⟩,oT⟩,oT⟩⟩⟩⟩⟩,⟨⟨oT,⟨⟨oT,⟨⟨⟨⟨⟨⟨⟨⟨⟨c5,c6,oT⟩,oT⟩,oT⟩,oT⟩,oT⟩,oT⟩,oT⟩,oT⟩,oT⟩⟩,oT⟩⟩,oT⟩⟩,⟨⟨oT,⟨oT,⟨oT,⟨oT,⟨⟨⟨⟨⟨⟨⟨⟨⟨c9,oT⟩,oT⟩,oT⟩,oT⟩,oT⟩,oT⟩,oT⟩,oT⟩,oT⟩⟩⟩⟩⟩,⟨⟨⟨⟨oT,⟨⟨⟨⟨⟨⟨⟨⟨⟨c4,oT⟩,oT⟩,oT⟩,oT⟩,oT⟩,oT⟩,oT⟩,oT⟩,oT⟩⟩,oT⟩,oT⟩,oT⟩⟩⟩⟩,⟨⟨⟨⟨oT,⟨oT,⟨oT,⟨oT,⟨⟨⟨⟨⟨⟨⟨⟨⟨c7,oT⟩,oT⟩,oT⟩,oT⟩,oT⟩,oT⟩,oT⟩,oT⟩,oT⟩⟩⟩⟩⟩,oT⟩,oT⟩,oT⟩⟩
noncomputable def e10:Entry:=(39,[(.agg #[(.int .u8 2),(.int .u64 0),(.int .u32 0),(.int .u32 0),(.string ⟨#[7]⟩),(.string ⟨#[1,118,111,114,98,105,115]⟩),(.string ⟨#[]⟩),(.int .i64 0),(.slice none 0 0),(.string ⟨#[5,118,111,114,98,105,115]⟩),(.slice none 0 0)])],(.tuple #[(.string ⟨#[79,103,103,83,0,2,0,0,0,0,0,0,0,0,0,0,0,0,0,0,0,0,174,173,91,175,1,7,1,118,111,114,98,105,115,79,103,103,83,0,0,0,0,0,0,0,0,0,0,0,0,0,0,1,0,0,0,89,53,95,38,2,16,7,3,118,111,114,98,105,115,0,0,0,0,0,0,0,0,1,5,118,111,114,98,105,115]⟩),(.agg #[(.int .i64 0),(.int .i64 0)])]))
noncomputable def e11:Entry:=(69,[],(.bool true))
noncomputable def e12:Entry:=(144,[],(.bool true))
theorem b2_0:check Tryz.prog xt gk O1 60 [e10,e11,e12]=true:=by kernel_rfl
noncomputable def e13:Entry:=(147,[],(.bool true))
noncomputable def e14:Entry:=(148,[],(.bool true))
noncomputable def e15:Entry:=(243,[],(.bool true))
noncomputable def e16:Entry:=(248,[],(.bool true))
theorem b2_1:check Tryz.prog xt gk O1 60 [e13,e14,e15,e16]=true:=by kernel_rfl
variable [Sym]
noncomputable def k2:KT:=(.b (.b (.b (.b (.b .e (.b (.b (.b .e (.b (.b (.l (.b (.b (.b (.b (.b (.b (.l [e12]) .e) .e) .e) .e) .e) .e)) .e) .e)) .e) .e)) (.b .e (.b .e (.b .e (.b .e (.b (.b (.l (.b (.b (.b (.b (.b (.b (.l [e16]) .e) .e) .e) .e) .e) .e)) .e) .e)))))) (.b (.b .e (.b (.b (.b .e (.b (.b (.l (.b (.b (.b (.b (.b (.b (.l [e14]) .e) .e) .e) .e) .e) .e)) .e) .e)) .e) .e)) .e)) .e) (.b (.b .e (.b (.b (.b (.b .e (.b (.b (.b (.l (.b (.b (.b (.b (.b (.b (.l [e11]) .e) .e) .e) .e) .e) .e)) .e) .e) .e)) .e) .e) .e)) (.b (.b (.b .e (.b (.b (.b .e (.b (.b (.l (.b (.b (.b (.b (.b (.b (.l [e13]) .e) .e) .e) .e) .e) .e)) .e) .e)) .e) (.b .e (.b .e (.b (.b (.l (.b (.b (.b (.b (.b (.b (.l [e15]) .e) .e) .e) .e) .e) .e)) .e) .e))))) .e) (.b (.b (.b .e (.b (.b (.b (.b (.l (.b (.b (.b (.b (.b (.b (.l [e10]) .e) .e) .e) .e) .e) .e)) .e) .e) .e) .e)) .e) .e))))
noncomputable def O2:Oracle:=O1.add k2
theorem k2_ok:KAll (EOk Tryz.prog xt gk O1 60) k2:=by
 obtain⟨c10,c11,c12,_⟩:=zn b2_0;obtain⟨c13,c14,c15,c16,_⟩:=zn b2_1;exact⟨⟨⟨⟨⟨oT,⟨⟨⟨oT,⟨⟨⟨⟨⟨⟨⟨⟨⟨c12,oT⟩,oT⟩,oT⟩,oT⟩,oT⟩,oT⟩,oT⟩,oT⟩,oT⟩⟩,oT⟩,oT⟩⟩,⟨oT,⟨oT,⟨oT,⟨oT,⟨⟨⟨⟨⟨⟨⟨⟨⟨c16,oT⟩,oT⟩,oT⟩,oT⟩,oT⟩,oT⟩,oT⟩,oT⟩,oT⟩⟩⟩⟩⟩⟩,⟨⟨oT,⟨⟨⟨oT,⟨⟨⟨⟨⟨⟨⟨⟨⟨c14,oT⟩,oT⟩,oT⟩,oT⟩,oT⟩,oT⟩,oT⟩,oT⟩,oT⟩⟩,oT⟩,oT⟩⟩,oT⟩⟩,oT⟩,⟨⟨oT,⟨⟨⟨⟨oT,⟨⟨⟨⟨⟨⟨⟨⟨⟨⟨c11,oT⟩,oT⟩,oT⟩,oT⟩,oT⟩,oT⟩,oT⟩,oT⟩,oT⟩,oT⟩⟩,oT⟩,oT⟩,oT⟩⟩,⟨⟨⟨oT,⟨⟨⟨oT,⟨⟨⟨⟨⟨⟨⟨⟨⟨c13,oT⟩,oT⟩,oT⟩,oT⟩,oT⟩,oT⟩,oT⟩,oT⟩,oT⟩⟩,oT⟩,⟨oT,⟨oT,⟨⟨⟨⟨⟨⟨⟨⟨⟨c15,oT⟩,oT⟩,oT⟩,oT⟩,oT⟩,oT⟩,oT⟩,oT⟩,oT⟩⟩⟩⟩⟩,oT⟩,⟨⟨⟨oT,⟨⟨⟨⟨⟨⟨⟨⟨⟨⟨⟨c10,oT⟩,oT⟩,oT⟩,oT⟩,oT⟩,oT⟩,oT⟩,oT⟩,oT⟩,oT⟩,oT⟩⟩,oT⟩,oT⟩⟩⟩⟩
noncomputable def e17:Entry:=(70,[],(.bool true))
noncomputable def e18:Entry:=(72,[],(.bool true))
theorem b3_0:check Tryz.prog xt gk O2 60 [e17,e18]=true:=by kernel_rfl
noncomputable def e19:Entry:=(145,[],(.bool true))
noncomputable def e20:Entry:=(149,[],(.bool true))
noncomputable def e21:Entry:=(150,[],(.bool true))
theorem b3_1:check Tryz.prog xt gk O2 60 [e19,e20,e21]=true:=by kernel_rfl
noncomputable def e22:Entry:=(151,[],(.bool true))
noncomputable def e23:Entry:=(152,[],(.bool true))
theorem b3_2:check Tryz.prog xt gk O2 60 [e22,e23]=true:=by kernel_rfl
variable [Sym]
noncomputable def k3:KT:=(.b (.b (.b (.b .e (.b (.b (.b .e (.b (.b (.b (.l (.b (.b (.b (.b (.b (.b (.l [e18]) .e) .e) .e) .e) .e) .e)) .e) .e) .e)) .e) (.b (.b (.b .e (.b (.b (.l (.b (.b (.b (.b (.b (.b (.l [e23]) .e) .e) .e) .e) .e) .e)) .e) .e)) .e) .e))) .e) (.b .e (.b (.b (.b (.b .e (.b (.b (.b (.l (.b (.b (.b (.b (.b (.b (.l [e17]) .e) .e) .e) .e) .e) .e)) .e) .e) .e)) .e) (.b (.b (.b .e (.b (.b (.l (.b (.b (.b (.b (.b (.b (.l [e21]) .e) .e) .e) .e) .e) .e)) .e) .e)) .e) .e)) .e))) (.b (.b (.b (.b .e (.b (.b (.b .e (.b (.b (.l (.b (.b (.b (.b (.b (.b (.l [e19]) .e) .e) .e) .e) .e) .e)) .e) .e)) .e) .e)) .e) (.b (.b .e (.b (.b (.b .e (.b (.b (.l (.b (.b (.b (.b (.b (.b (.l [e20]) .e) .e) .e) .e) .e) .e)) .e) .e)) .e) .e)) .e)) (.b .e (.b (.b .e (.b (.b (.b .e (.b (.b (.l (.b (.b (.b (.b (.b (.b (.l [e22]) .e) .e) .e) .e) .e) .e)) .e) .e)) .e) .e)) .e))))
noncomputable def O3:Oracle:=O2.add k3
theorem k3_ok:KAll (EOk Tryz.prog xt gk O2 60) k3:=by
 obtain⟨c17,c18,_⟩:=zn b3_0;obtain⟨c19,c20,c21,_⟩:=zn b3_1;obtain⟨c22,c23,_⟩:=zn b3_2;exact⟨⟨⟨⟨oT,⟨⟨⟨oT,⟨⟨⟨⟨⟨⟨⟨⟨⟨⟨c18,oT⟩,oT⟩,oT⟩,oT⟩,oT⟩,oT⟩,oT⟩,oT⟩,oT⟩,oT⟩⟩,oT⟩,⟨⟨⟨oT,⟨⟨⟨⟨⟨⟨⟨⟨⟨c23,oT⟩,oT⟩,oT⟩,oT⟩,oT⟩,oT⟩,oT⟩,oT⟩,oT⟩⟩,oT⟩,oT⟩⟩⟩,oT⟩,⟨oT,⟨⟨⟨⟨oT,⟨⟨⟨⟨⟨⟨⟨⟨⟨⟨c17,oT⟩,oT⟩,oT⟩,oT⟩,oT⟩,oT⟩,oT⟩,oT⟩,oT⟩,oT⟩⟩,oT⟩,⟨⟨⟨oT,⟨⟨⟨⟨⟨⟨⟨⟨⟨c21,oT⟩,oT⟩,oT⟩,oT⟩,oT⟩,oT⟩,oT⟩,oT⟩,oT⟩⟩,oT⟩,oT⟩⟩,oT⟩⟩⟩,⟨⟨⟨⟨oT,⟨⟨⟨oT,⟨⟨⟨⟨⟨⟨⟨⟨⟨c19,oT⟩,oT⟩,oT⟩,oT⟩,oT⟩,oT⟩,oT⟩,oT⟩,oT⟩⟩,oT⟩,oT⟩⟩,oT⟩,⟨⟨oT,⟨⟨⟨oT,⟨⟨⟨⟨⟨⟨⟨⟨⟨c20,oT⟩,oT⟩,oT⟩,oT⟩,oT⟩,oT⟩,oT⟩,oT⟩,oT⟩⟩,oT⟩,oT⟩⟩,oT⟩⟩,⟨oT,⟨⟨oT,⟨⟨⟨oT,⟨⟨⟨⟨⟨⟨⟨⟨⟨c22,oT⟩,oT⟩,oT⟩,oT⟩,oT⟩,oT⟩,oT⟩,oT⟩,oT⟩⟩,oT⟩,oT⟩⟩,oT⟩⟩⟩⟩
noncomputable def e24:Entry:=(73,[],(.bool true))
noncomputable def e25:Entry:=(146,[],(.bool true))
theorem b4_0:check Tryz.prog xt gk O3 60 [e24,e25]=true:=by kernel_rfl
variable [Sym]
noncomputable def k4:KT:=(.b (.b .e (.b (.b (.b .e (.b (.b (.b .e (.b (.b (.l (.b (.b (.b (.b (.b (.b (.l [e25]) .e) .e) .e) .e) .e) .e)) .e) .e)) .e) .e)) .e) .e)) (.b (.b (.b .e (.b (.b (.b .e (.b (.b (.b (.l (.b (.b (.b (.b (.b (.b (.l [e24]) .e) .e) .e) .e) .e) .e)) .e) .e) .e)) .e) .e)) .e) .e))
noncomputable def O4:Oracle:=O3.add k4
theorem k4_ok:KAll (EOk Tryz.prog xt gk O3 60) k4:=by
 obtain⟨c24,c25,_⟩:=zn b4_0;exact⟨⟨oT,⟨⟨⟨oT,⟨⟨⟨oT,⟨⟨⟨⟨⟨⟨⟨⟨⟨c25,oT⟩,oT⟩,oT⟩,oT⟩,oT⟩,oT⟩,oT⟩,oT⟩,oT⟩⟩,oT⟩,oT⟩⟩,oT⟩,oT⟩⟩,⟨⟨⟨oT,⟨⟨⟨oT,⟨⟨⟨⟨⟨⟨⟨⟨⟨⟨c24,oT⟩,oT⟩,oT⟩,oT⟩,oT⟩,oT⟩,oT⟩,oT⟩,oT⟩,oT⟩⟩,oT⟩,oT⟩⟩,oT⟩,oT⟩⟩
noncomputable def e26:Entry:=(71,[],(.bool true))
theorem b5_0:check Tryz.prog xt gk O4 60 [e26]=true:=by kernel_rfl
variable [Sym]
noncomputable def k5:KT:=(.b .e (.b .e (.b .e (.b (.b (.b (.b .e (.b (.b (.b (.l (.b (.b (.b (.b (.b (.b (.l [e26]) .e) .e) .e) .e) .e) .e)) .e) .e) .e)) .e) .e) .e))))
noncomputable def O5:Oracle:=O4.add k5
theorem k5_ok:KAll (EOk Tryz.prog xt gk O4 60) k5:=by
 obtain⟨c26,_⟩:=zn b5_0;exact⟨oT,⟨oT,⟨oT,⟨⟨⟨⟨oT,⟨⟨⟨⟨⟨⟨⟨⟨⟨⟨c26,oT⟩,oT⟩,oT⟩,oT⟩,oT⟩,oT⟩,oT⟩,oT⟩,oT⟩,oT⟩⟩,oT⟩,oT⟩,oT⟩⟩⟩⟩
noncomputable def e27:Entry:=(33,[],(.bool true))
theorem b6_0:check Tryz.prog xt gk O5 60 [e27]=true:=by kernel_rfl
variable [Sym]
noncomputable def k6:KT:=(.b .e (.b (.b (.b (.b (.b .e (.b (.b (.b (.b (.l (.b (.b (.b (.b (.b (.b (.l [e27]) .e) .e) .e) .e) .e) .e)) .e) .e) .e) .e)) .e) .e) .e) .e))
noncomputable def O6:Oracle:=O5.add k6
theorem k6_ok:KAll (EOk Tryz.prog xt gk O5 60) k6:=by
 obtain⟨c27,_⟩:=zn b6_0;exact⟨oT,⟨⟨⟨⟨⟨oT,⟨⟨⟨⟨⟨⟨⟨⟨⟨⟨⟨c27,oT⟩,oT⟩,oT⟩,oT⟩,oT⟩,oT⟩,oT⟩,oT⟩,oT⟩,oT⟩,oT⟩⟩,oT⟩,oT⟩,oT⟩,oT⟩⟩
end Go.Proofs.YtgjchmcpondogaaGreatDoor
