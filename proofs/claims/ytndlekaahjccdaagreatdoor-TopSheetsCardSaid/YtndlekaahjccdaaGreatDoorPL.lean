/- PL -/
import Derived.Test.YtndlekaahjccdaaGreatDoorPK
set_option linter.all false
set_option maxRecDepth 100000
set_option maxHeartbeats 40000000
namespace Go.Proofs.YtndlekaahjccdaaGreatDoor
open Go Go.Rf Go.RowKit
noncomputable def e1:Entry:=(20,[(.string ⟨#[84,73,84,76,69,32,193]⟩),(.agg #[(.int .i64 0),(.int .i64 1),(.bool false),(.int .i64 0)])],(.tuple #[(.string ⟨#[84,73,84,76,69,32,208,176]⟩),(.agg #[(.int .i64 0),(.int .i64 0)])]))
noncomputable def e2:Entry:=(20,[(.string ⟨#[84,73,84,76,69,32,193]⟩),(.agg #[(.int .i64 0),(.int .i64 1),(.bool false),(.int .i64 7)])],(.tuple #[(.string ⟨#[]⟩),(.agg #[(.int .i64 4),(.int .i64 0)])]))
theorem b1_0:check Tryz.prog xt gk O0 60 [e1,e2]=true:=by kernel_rfl
noncomputable def e3:Entry:=(64,[],(.bool true))
noncomputable def e4:Entry:=(112,[(.agg #[(.int .u8 0),(.int .u64 0),(.int .u32 0),(.int .u32 0),(.string ⟨#[]⟩),(.string ⟨#[]⟩)])],(.tuple #[(.string ⟨#[79,103,103,83,0,0,0,0,0,0,0,0,0,0,0,0,0,0,0,0,0,0,17,165,161,158,0]⟩),(.agg #[(.int .i64 0),(.int .i64 0)])]))
noncomputable def e5:Entry:=(112,[(.agg #[(.int .u8 2),(.int .u64 0),(.int .u32 0),(.int .u32 0),(.string ⟨#[7]⟩),(.string ⟨#[1,118,111,114,98,105,115]⟩)])],(.tuple #[(.string ⟨#[79,103,103,83,0,2,0,0,0,0,0,0,0,0,0,0,0,0,0,0,0,0,174,173,91,175,1,7,1,118,111,114,98,105,115]⟩),(.agg #[(.int .i64 0),(.int .i64 0)])]))
theorem b1_1:check Tryz.prog xt gk O0 60 [e3,e4,e5]=true:=by kernel_rfl
noncomputable def e6:Entry:=(112,[(.agg #[(.int .u8 0),(.int .u64 0),(.int .u32 0),(.int .u32 1),(.string ⟨#[16,7]⟩),(.string ⟨#[3,118,111,114,98,105,115,0,0,0,0,0,0,0,0,1,5,118,111,114,98,105,115]⟩)])],(.tuple #[(.string ⟨#[79,103,103,83,0,0,0,0,0,0,0,0,0,0,0,0,0,0,1,0,0,0,89,53,95,38,2,16,7,3,118,111,114,98,105,115,0,0,0,0,0,0,0,0,1,5,118,111,114,98,105,115]⟩),(.agg #[(.int .i64 0),(.int .i64 0)])]))
noncomputable def e7:Entry:=(145,[],(.bool true))
noncomputable def e8:Entry:=(146,[],(.bool true))
theorem b1_2:check Tryz.prog xt gk O0 60 [e6,e7,e8]=true:=by kernel_rfl
noncomputable def e9:Entry:=(154,[(.agg #[(.string ⟨#[97]⟩),(.string ⟨#[]⟩),(.string ⟨#[]⟩),(.string ⟨#[]⟩),(.string ⟨#[]⟩),(.int .u8 5),(.int .u8 17)])],(.tuple #[(.string ⟨#[84,65,71,97,0,0,0,0,0,0,0,0,0,0,0,0,0,0,0,0,0,0,0,0,0,0,0,0,0,0,0,0,0,0,0,0,0,0,0,0,0,0,0,0,0,0,0,0,0,0,0,0,0,0,0,0,0,0,0,0,0,0,0,0,0,0,0,0,0,0,0,0,0,0,0,0,0,0,0,0,0,0,0,0,0,0,0,0,0,0,0,0,0,0,0,0,0,0,0,0,0,0,0,0,0,0,0,0,0,0,0,0,0,0,0,0,0,0,0,0,0,0,0,0,0,0,5,17]⟩),(.agg #[(.int .i64 0),(.int .i64 0)])]))
noncomputable def e10:Entry:=(192,[(.agg #[(.int .u8 2),(.int .u64 0),(.int .u32 0),(.int .u32 0),(.string ⟨#[7]⟩),(.string ⟨#[1,118,111,114,98,105,115]⟩)])],(.int .u32 2942021038))
theorem b1_3:check Tryz.prog xt gk O0 60 [e9,e10]=true:=by kernel_rfl
noncomputable def e11:Entry:=(192,[(.agg #[(.int .u8 0),(.int .u64 0),(.int .u32 0),(.int .u32 1),(.string ⟨#[16,7]⟩),(.string ⟨#[3,118,111,114,98,105,115,0,0,0,0,0,0,0,0,1,5,118,111,114,98,105,115]⟩)])],(.int .u32 643773785))
theorem b1_4:check Tryz.prog xt gk O0 60 [e11]=true:=by kernel_rfl
variable [Sym]
def QY{α:Type}(x:α):Tab α:=.b (.b (.b (.b (.b (.b (.l x) .e) .e) .e) .e) .e) .e
def QZ{α:Type}(x:α):Tab α:=.b (.b (.b (.b .e (.b (.b (.b (.l x) .e) .e) .e)) .e) .e) .e
noncomputable def k1:KT:=.b (.b (.b (.b (.b (.b (.b .e (.b (.b (.b (.l (QY [e3])) .e) .e) (.b (.b (.l (QY [e10,e11])) .e) .e))) .e) (.b .e (.b .e (.b (.b (.b (.l (QY [e4,e5,e6])) .e) .e) .e)))) .e) (.b (.b .e (.b (.b (.b (.b (.b (.l (.b (.b .e (.b (.b (.b (.b .e (.l [e1,e2])) .e) .e) .e)) .e)) .e) .e) .e) .e) .e)) .e)) (.b (.b (.b .e (.b (.b (.b .e (.b (.b (.l (QY [e8])) .e) .e)) .e) .e)) (.b .e (.b (.b (.b .e (.b (.b (.l (QY [e9])) .e) .e)) .e) .e))) .e)) (.b (.b (.b (.b .e (.b (.b (.b .e (.b (.b (.l (QY [e7])) .e) .e)) .e) .e)) .e) .e) .e)
noncomputable def O1:Oracle:=O0.add k1
theorem k1_ok:KAll (EOk Tryz.prog xt gk O0 60) k1:=by
 obtain⟨c1,c2,_⟩:=zk b1_0;obtain⟨c3,c4,c5,_⟩:=zk b1_1;obtain⟨c6,c7,c8,_⟩:=zk b1_2;obtain⟨c9,c10,_⟩:=zk b1_3;obtain⟨c11,_⟩:=zk b1_4;exact⟨⟨⟨⟨⟨⟨⟨oT,⟨⟨⟨⟨⟨⟨⟨⟨⟨⟨c3,oT⟩,oT⟩,oT⟩,oT⟩,oT⟩,oT⟩,oT⟩,oT⟩,oT⟩,⟨⟨⟨⟨⟨⟨⟨⟨⟨c10,c11,oT⟩,oT⟩,oT⟩,oT⟩,oT⟩,oT⟩,oT⟩,oT⟩,oT⟩⟩⟩,oT⟩,⟨oT,⟨oT,⟨⟨⟨⟨⟨⟨⟨⟨⟨⟨c4,c5,c6,oT⟩,oT⟩,oT⟩,oT⟩,oT⟩,oT⟩,oT⟩,oT⟩,oT⟩,oT⟩⟩⟩⟩,oT⟩,⟨⟨oT,⟨⟨⟨⟨⟨⟨⟨oT,⟨⟨⟨⟨oT,⟨c1,c2,oT⟩⟩,oT⟩,oT⟩,oT⟩⟩,oT⟩,oT⟩,oT⟩,oT⟩,oT⟩,oT⟩⟩,oT⟩⟩,⟨⟨⟨oT,⟨⟨⟨oT,⟨⟨⟨⟨⟨⟨⟨⟨⟨c8,oT⟩,oT⟩,oT⟩,oT⟩,oT⟩,oT⟩,oT⟩,oT⟩,oT⟩⟩,oT⟩,oT⟩⟩,⟨oT,⟨⟨⟨oT,⟨⟨⟨⟨⟨⟨⟨⟨⟨c9,oT⟩,oT⟩,oT⟩,oT⟩,oT⟩,oT⟩,oT⟩,oT⟩,oT⟩⟩,oT⟩,oT⟩⟩⟩,oT⟩⟩,⟨⟨⟨⟨oT,⟨⟨⟨oT,⟨⟨⟨⟨⟨⟨⟨⟨⟨c7,oT⟩,oT⟩,oT⟩,oT⟩,oT⟩,oT⟩,oT⟩,oT⟩,oT⟩⟩,oT⟩,oT⟩⟩,oT⟩,oT⟩,oT⟩⟩
noncomputable def e12:Entry:=(41,[],(.bool true))
noncomputable def e13:Entry:=(59,[(.agg #[(.int .u8 2),(.int .u64 0),(.int .u32 0),(.int .u32 0),(.string ⟨#[7]⟩),(.string ⟨#[1,118,111,114,98,105,115]⟩),(.string ⟨#[]⟩),(.int .i64 0),(.slice none 0 0),(.string ⟨#[5,118,111,114,98,105,115]⟩),(.slice none 0 0)])],(.tuple #[(.string ⟨#[79,103,103,83,0,2,0,0,0,0,0,0,0,0,0,0,0,0,0,0,0,0,174,173,91,175,1,7,1,118,111,114,98,105,115,79,103,103,83,0,0,0,0,0,0,0,0,0,0,0,0,0,0,1,0,0,0,89,53,95,38,2,16,7,3,118,111,114,98,105,115,0,0,0,0,0,0,0,0,1,5,118,111,114,98,105,115]⟩),(.agg #[(.int .i64 0),(.int .i64 0)])]))
noncomputable def e14:Entry:=(68,[],(.bool true))
theorem b2_0:check Tryz.prog xt gk O1 60 [e12,e13,e14]=true:=by kernel_rfl
noncomputable def e15:Entry:=(72,[],(.bool true))
noncomputable def e16:Entry:=(73,[],(.bool true))
noncomputable def e17:Entry:=(150,[],(.bool true))
noncomputable def e18:Entry:=(157,[],(.bool true))
theorem b2_1:check Tryz.prog xt gk O1 60 [e15,e16,e17,e18]=true:=by kernel_rfl
variable [Sym]
noncomputable def k2:KT:=.b (.b (.b (.b .e (.b (.b (.b .e (.b (.b (.b (.l (QY [e15])) .e) .e) .e)) .e) .e)) (QZ (QY [e14]))) (.b .e (.b (.b .e (.b (.b (.b .e (.b (.b (.l (QY [e17])) .e) .e)) .e) .e)) .e))) (.b (.b (.b .e (.b (.b (.b .e (.b (.b (.b (.l (QY [e16])) .e) .e) .e)) (.b (.b (.b (.b (.l (QY [e12])) .e) .e) .e) .e)) .e)) (.b .e (.b .e (.b (.b (.b .e (.b (.b (.l (QY [e18])) .e) .e)) .e) .e)))) (.b (.b .e (.b .e (.b .e (.b (.b (.b (.b (.l (QY [e13])) .e) .e) .e) .e)))) .e))
noncomputable def O2:Oracle:=O1.add k2
theorem k2_ok:KAll (EOk Tryz.prog xt gk O1 60) k2:=by
 obtain⟨c12,c13,c14,_⟩:=zk b2_0;obtain⟨c15,c16,c17,c18,_⟩:=zk b2_1;exact⟨⟨⟨⟨oT,⟨⟨⟨oT,⟨⟨⟨⟨⟨⟨⟨⟨⟨⟨c15,oT⟩,oT⟩,oT⟩,oT⟩,oT⟩,oT⟩,oT⟩,oT⟩,oT⟩,oT⟩⟩,oT⟩,oT⟩⟩,⟨⟨⟨⟨oT,⟨⟨⟨⟨⟨⟨⟨⟨⟨⟨c14,oT⟩,oT⟩,oT⟩,oT⟩,oT⟩,oT⟩,oT⟩,oT⟩,oT⟩,oT⟩⟩,oT⟩,oT⟩,oT⟩⟩,⟨oT,⟨⟨oT,⟨⟨⟨oT,⟨⟨⟨⟨⟨⟨⟨⟨⟨c17,oT⟩,oT⟩,oT⟩,oT⟩,oT⟩,oT⟩,oT⟩,oT⟩,oT⟩⟩,oT⟩,oT⟩⟩,oT⟩⟩⟩,⟨⟨⟨oT,⟨⟨⟨oT,⟨⟨⟨⟨⟨⟨⟨⟨⟨⟨c16,oT⟩,oT⟩,oT⟩,oT⟩,oT⟩,oT⟩,oT⟩,oT⟩,oT⟩,oT⟩⟩,⟨⟨⟨⟨⟨⟨⟨⟨⟨⟨⟨c12,oT⟩,oT⟩,oT⟩,oT⟩,oT⟩,oT⟩,oT⟩,oT⟩,oT⟩,oT⟩,oT⟩⟩,oT⟩⟩,⟨oT,⟨oT,⟨⟨⟨oT,⟨⟨⟨⟨⟨⟨⟨⟨⟨c18,oT⟩,oT⟩,oT⟩,oT⟩,oT⟩,oT⟩,oT⟩,oT⟩,oT⟩⟩,oT⟩,oT⟩⟩⟩⟩,⟨⟨oT,⟨oT,⟨oT,⟨⟨⟨⟨⟨⟨⟨⟨⟨⟨⟨c13,oT⟩,oT⟩,oT⟩,oT⟩,oT⟩,oT⟩,oT⟩,oT⟩,oT⟩,oT⟩,oT⟩⟩⟩⟩,oT⟩⟩⟩
noncomputable def e19:Entry:=(42,[],(.bool true))
noncomputable def e20:Entry:=(44,[],(.bool true))
theorem b3_0:check Tryz.prog xt gk O2 60 [e19,e20]=true:=by kernel_rfl
noncomputable def e21:Entry:=(70,[],(.bool true))
noncomputable def e22:Entry:=(74,[],(.bool true))
noncomputable def e23:Entry:=(75,[],(.bool true))
theorem b3_1:check Tryz.prog xt gk O2 60 [e21,e22,e23]=true:=by kernel_rfl
noncomputable def e24:Entry:=(76,[],(.bool true))
noncomputable def e25:Entry:=(77,[],(.bool true))
theorem b3_2:check Tryz.prog xt gk O2 60 [e24,e25]=true:=by kernel_rfl
variable [Sym]
noncomputable def k3:KT:=.b (.b (.b .e (.b .e (.b (.b (.b .e (.b (.b (.b (.l (QY [e24])) .e) .e) .e)) (.b (.b (.b (.b (.l (QY [e20])) .e) .e) .e) .e)) .e))) (.b (.b .e (.b (.b (.b .e (.b (.b (.b (.l (QY [e22])) .e) .e) .e)) (.b (.b (.b (.b (.l (QY [e19])) .e) .e) .e) .e)) .e)) (QZ (QY [e21])))) (.b (.b .e (.b .e (.b (.b (.b .e (.b (.b (.b (.l (QY [e25])) .e) .e) .e)) .e) .e))) (.b (.b .e (.b (.b (.b .e (.b (.b (.b (.l (QY [e23])) .e) .e) .e)) .e) .e)) .e))
noncomputable def O3:Oracle:=O2.add k3
theorem k3_ok:KAll (EOk Tryz.prog xt gk O2 60) k3:=by
 obtain⟨c19,c20,_⟩:=zk b3_0;obtain⟨c21,c22,c23,_⟩:=zk b3_1;obtain⟨c24,c25,_⟩:=zk b3_2;exact⟨⟨⟨oT,⟨oT,⟨⟨⟨oT,⟨⟨⟨⟨⟨⟨⟨⟨⟨⟨c24,oT⟩,oT⟩,oT⟩,oT⟩,oT⟩,oT⟩,oT⟩,oT⟩,oT⟩,oT⟩⟩,⟨⟨⟨⟨⟨⟨⟨⟨⟨⟨⟨c20,oT⟩,oT⟩,oT⟩,oT⟩,oT⟩,oT⟩,oT⟩,oT⟩,oT⟩,oT⟩,oT⟩⟩,oT⟩⟩⟩,⟨⟨oT,⟨⟨⟨oT,⟨⟨⟨⟨⟨⟨⟨⟨⟨⟨c22,oT⟩,oT⟩,oT⟩,oT⟩,oT⟩,oT⟩,oT⟩,oT⟩,oT⟩,oT⟩⟩,⟨⟨⟨⟨⟨⟨⟨⟨⟨⟨⟨c19,oT⟩,oT⟩,oT⟩,oT⟩,oT⟩,oT⟩,oT⟩,oT⟩,oT⟩,oT⟩,oT⟩⟩,oT⟩⟩,⟨⟨⟨⟨oT,⟨⟨⟨⟨⟨⟨⟨⟨⟨⟨c21,oT⟩,oT⟩,oT⟩,oT⟩,oT⟩,oT⟩,oT⟩,oT⟩,oT⟩,oT⟩⟩,oT⟩,oT⟩,oT⟩⟩⟩,⟨⟨oT,⟨oT,⟨⟨⟨oT,⟨⟨⟨⟨⟨⟨⟨⟨⟨⟨c25,oT⟩,oT⟩,oT⟩,oT⟩,oT⟩,oT⟩,oT⟩,oT⟩,oT⟩,oT⟩⟩,oT⟩,oT⟩⟩⟩,⟨⟨oT,⟨⟨⟨oT,⟨⟨⟨⟨⟨⟨⟨⟨⟨⟨c23,oT⟩,oT⟩,oT⟩,oT⟩,oT⟩,oT⟩,oT⟩,oT⟩,oT⟩,oT⟩⟩,oT⟩,oT⟩⟩,oT⟩⟩⟩
noncomputable def e26:Entry:=(45,[],(.bool true))
noncomputable def e27:Entry:=(71,[],(.bool true))
theorem b4_0:check Tryz.prog xt gk O3 60 [e26,e27]=true:=by kernel_rfl
variable [Sym]
noncomputable def k4:KT:=.b .e (.b (.b .e (.b .e (.b (.b .e (.b (.b (.b (.b (.l (QY [e26])) .e) .e) .e) .e)) .e))) (.b .e (QZ (QY [e27]))))
noncomputable def O4:Oracle:=O3.add k4
theorem k4_ok:KAll (EOk Tryz.prog xt gk O3 60) k4:=by
 obtain⟨c26,c27,_⟩:=zk b4_0;exact⟨oT,⟨⟨oT,⟨oT,⟨⟨oT,⟨⟨⟨⟨⟨⟨⟨⟨⟨⟨⟨c26,oT⟩,oT⟩,oT⟩,oT⟩,oT⟩,oT⟩,oT⟩,oT⟩,oT⟩,oT⟩,oT⟩⟩,oT⟩⟩⟩,⟨oT,⟨⟨⟨⟨oT,⟨⟨⟨⟨⟨⟨⟨⟨⟨⟨c27,oT⟩,oT⟩,oT⟩,oT⟩,oT⟩,oT⟩,oT⟩,oT⟩,oT⟩,oT⟩⟩,oT⟩,oT⟩,oT⟩⟩⟩⟩
noncomputable def e28:Entry:=(43,[],(.bool true))
theorem b5_0:check Tryz.prog xt gk O4 60 [e28]=true:=by kernel_rfl
variable [Sym]
noncomputable def k5:KT:=.b .e (.b .e (.b (.b .e (.b (.b .e (.b (.b (.b (.b (.l (QY [e28])) .e) .e) .e) .e)) .e)) .e))
noncomputable def O5:Oracle:=O4.add k5
theorem k5_ok:KAll (EOk Tryz.prog xt gk O4 60) k5:=by
 obtain⟨c28,_⟩:=zk b5_0;exact⟨oT,⟨oT,⟨⟨oT,⟨⟨oT,⟨⟨⟨⟨⟨⟨⟨⟨⟨⟨⟨c28,oT⟩,oT⟩,oT⟩,oT⟩,oT⟩,oT⟩,oT⟩,oT⟩,oT⟩,oT⟩,oT⟩⟩,oT⟩⟩,oT⟩⟩⟩
noncomputable def e29:Entry:=(22,[],(.bool true))
theorem b6_0:check Tryz.prog xt gk O5 60 [e29]=true:=by kernel_rfl
variable [Sym]
noncomputable def k6:KT:=.b (.b .e (.b .e (.b (.b .e (.b (.b (.b (.b (.b (.l (QY [e29])) .e) .e) .e) .e) .e)) .e))) .e
noncomputable def O6:Oracle:=O5.add k6
theorem k6_ok:KAll (EOk Tryz.prog xt gk O5 60) k6:=by
 obtain⟨c29,_⟩:=zk b6_0;exact⟨⟨oT,⟨oT,⟨⟨oT,⟨⟨⟨⟨⟨⟨⟨⟨⟨⟨⟨⟨c29,oT⟩,oT⟩,oT⟩,oT⟩,oT⟩,oT⟩,oT⟩,oT⟩,oT⟩,oT⟩,oT⟩,oT⟩⟩,oT⟩⟩⟩,oT⟩
noncomputable def e30:Entry:=(12,[],(.bool true))
theorem b7_0:check Tryz.prog xt gk O6 60 [e30]=true:=by kernel_rfl
variable [Sym]
noncomputable def k7:KT:=.b (.b (.b .e (.b .e (QY (QY [e30])))) .e) .e
noncomputable def O7:Oracle:=O6.add k7
theorem k7_ok:KAll (EOk Tryz.prog xt gk O6 60) k7:=by
 obtain⟨c30,_⟩:=zk b7_0;exact⟨⟨⟨oT,⟨oT,⟨⟨⟨⟨⟨⟨⟨⟨⟨⟨⟨⟨⟨c30,oT⟩,oT⟩,oT⟩,oT⟩,oT⟩,oT⟩,oT⟩,oT⟩,oT⟩,oT⟩,oT⟩,oT⟩,oT⟩⟩⟩,oT⟩,oT⟩
