/- R3: a checked evaluator for calls, and what it shows (part). -/
import Derived.Test.YtohbeinhlhgfiaaGreatDoorRX
set_option linter.all false
set_option linter.unusedSectionVars false
set_option linter.unusedVariables false
set_option linter.unusedSimpArgs false
namespace Go.Proofs.YtohbeinhlhgfiaaGreatDoor
open Go Go.Rf Go.RowKit
noncomputable def e1 : Entry:=(66,[],(.bool true))
noncomputable def e2 : Entry:=(135,[(.agg #[(.string ⟨#[97]⟩),(.string ⟨#[]⟩),(.string ⟨#[]⟩),(.string ⟨#[]⟩),(.string ⟨#[]⟩),(.int .u8 5),(.int .u8 17)])],(.tuple #[(.string ⟨#[84,65,71,97,0,0,0,0,0,0,0,0,0,0,0,0,0,0,0,0,0,0,0,0,0,0,0,0,0,0,0,0,0,0,0,0,0,0,0,0,0,0,0,0,0,0,0,0,0,0,0,0,0,0,0,0,0,0,0,0,0,0,0,0,0,0,0,0,0,0,0,0,0,0,0,0,0,0,0,0,0,0,0,0,0,0,0,0,0,0,0,0,0,0,0,0,0,0,0,0,0,0,0,0,0,0,0,0,0,0,0,0,0,0,0,0,0,0,0,0,0,0,0,0,0,0,5,17]⟩),(.agg #[(.int .i64 0),(.int .i64 0)])]))
noncomputable def e3 : Entry:=(137,[],(.bool true))
theorem b1_0 : check Tryz.prog xt gk O0 60 [e1,e2,e3] = true:=by kernel_rfl
end Go.Proofs.YtohbeinhlhgfiaaGreatDoor
namespace Go.Proofs.YtohbeinhlhgfiaaGreatDoor
open Go Go.Rf Go.RowKit
variable [Sym]
noncomputable def k1 : KT:=(.node (.node .nil (.node (.node (.node (.node (.node .nil (.node (.node (.node (.leaf (.node (.node (.node (.node (.node (.node (.leaf [e1]) .nil) .nil) .nil) .nil) .nil) .nil)) .nil) .nil) .nil)) .nil) .nil) .nil) .nil)) (.node (.node (.node .nil (.node (.node (.node (.node .nil (.node (.node (.leaf (.node (.node (.node (.node (.node (.node (.leaf [e3]) .nil) .nil) .nil) .nil) .nil) .nil)) .nil) .nil)) .nil) .nil) .nil)) .nil) (.node .nil (.node (.node (.node (.node (.node .nil (.node (.node (.leaf (.node (.node (.node (.node (.node (.node (.leaf [e2]) .nil) .nil) .nil) .nil) .nil) .nil)) .nil) .nil)) .nil) .nil) .nil) .nil))))
noncomputable def O1 : Oracle:=O0.add k1
theorem k1_ok : KAll (EOk Tryz.prog xt gk O0 60) k1:=by
 obtain ⟨c1,c2,c3,_⟩:=check_all b1_0
 exact ⟨⟨trivial,⟨⟨⟨⟨⟨trivial,⟨⟨⟨⟨⟨⟨⟨⟨⟨⟨c1,trivial⟩,trivial⟩,trivial⟩,trivial⟩,trivial⟩,trivial⟩,trivial⟩,trivial⟩,trivial⟩,trivial⟩⟩,trivial⟩,trivial⟩,trivial⟩,trivial⟩⟩,⟨⟨⟨trivial,⟨⟨⟨⟨trivial,⟨⟨⟨⟨⟨⟨⟨⟨⟨c3,trivial⟩,trivial⟩,trivial⟩,trivial⟩,trivial⟩,trivial⟩,trivial⟩,trivial⟩,trivial⟩⟩,trivial⟩,trivial⟩,trivial⟩⟩,trivial⟩,⟨trivial,⟨⟨⟨⟨⟨trivial,⟨⟨⟨⟨⟨⟨⟨⟨⟨c2,trivial⟩,trivial⟩,trivial⟩,trivial⟩,trivial⟩,trivial⟩,trivial⟩,trivial⟩,trivial⟩⟩,trivial⟩,trivial⟩,trivial⟩,trivial⟩⟩⟩⟩
end Go.Proofs.YtohbeinhlhgfiaaGreatDoor
namespace Go.Proofs.YtohbeinhlhgfiaaGreatDoor
open Go Go.Rf Go.RowKit
noncomputable def e4 : Entry:=(68,[],(.bool true))
noncomputable def e5 : Entry:=(139,[],(.bool true))
theorem b2_0 : check Tryz.prog xt gk O1 60 [e4,e5] = true:=by kernel_rfl
end Go.Proofs.YtohbeinhlhgfiaaGreatDoor
namespace Go.Proofs.YtohbeinhlhgfiaaGreatDoor
open Go Go.Rf Go.RowKit
variable [Sym]
noncomputable def k2 : KT:=(.node (.node (.node .nil (.node (.node (.node (.node .nil (.node (.node (.node (.leaf (.node (.node (.node (.node (.node (.node (.leaf [e4]) .nil) .nil) .nil) .nil) .nil) .nil)) .nil) .nil) .nil)) .nil) .nil) .nil)) .nil) (.node .nil (.node (.node .nil (.node (.node (.node (.node .nil (.node (.node (.leaf (.node (.node (.node (.node (.node (.node (.leaf [e5]) .nil) .nil) .nil) .nil) .nil) .nil)) .nil) .nil)) .nil) .nil) .nil)) .nil)))
noncomputable def O2 : Oracle:=O1.add k2
theorem k2_ok : KAll (EOk Tryz.prog xt gk O1 60) k2:=by
 obtain ⟨c4,c5,_⟩:=check_all b2_0
 exact ⟨⟨⟨trivial,⟨⟨⟨⟨trivial,⟨⟨⟨⟨⟨⟨⟨⟨⟨⟨c4,trivial⟩,trivial⟩,trivial⟩,trivial⟩,trivial⟩,trivial⟩,trivial⟩,trivial⟩,trivial⟩,trivial⟩⟩,trivial⟩,trivial⟩,trivial⟩⟩,trivial⟩,⟨trivial,⟨⟨trivial,⟨⟨⟨⟨trivial,⟨⟨⟨⟨⟨⟨⟨⟨⟨c5,trivial⟩,trivial⟩,trivial⟩,trivial⟩,trivial⟩,trivial⟩,trivial⟩,trivial⟩,trivial⟩⟩,trivial⟩,trivial⟩,trivial⟩⟩,trivial⟩⟩⟩
end Go.Proofs.YtohbeinhlhgfiaaGreatDoor
namespace Go.Proofs.YtohbeinhlhgfiaaGreatDoor
open Go Go.Rf Go.RowKit
noncomputable def e6 : Entry:=(69,[],(.bool true))
noncomputable def e7 : Entry:=(70,[],(.bool true))
noncomputable def e8 : Entry:=(71,[],(.bool true))
noncomputable def e9 : Entry:=(72,[],(.bool true))
theorem b3_0 : check Tryz.prog xt gk O2 60 [e6,e7,e8,e9] = true:=by kernel_rfl
end Go.Proofs.YtohbeinhlhgfiaaGreatDoor
namespace Go.Proofs.YtohbeinhlhgfiaaGreatDoor
open Go Go.Rf Go.RowKit
variable [Sym]
noncomputable def k3 : KT:=(.node (.node (.node (.node .nil (.node (.node (.node .nil (.node (.node (.node (.leaf (.node (.node (.node (.node (.node (.node (.leaf [e9]) .nil) .nil) .nil) .nil) .nil) .nil)) .nil) .nil) .nil)) .nil) .nil)) .nil) (.node .nil (.node (.node (.node (.node .nil (.node (.node (.node (.leaf (.node (.node (.node (.node (.node (.node (.leaf [e7]) .nil) .nil) .nil) .nil) .nil) .nil)) .nil) .nil) .nil)) .nil) .nil) .nil))) (.node (.node .nil (.node (.node (.node (.node .nil (.node (.node (.node (.leaf (.node (.node (.node (.node (.node (.node (.leaf [e6]) .nil) .nil) .nil) .nil) .nil) .nil)) .nil) .nil) .nil)) .nil) .nil) .nil)) (.node .nil (.node (.node (.node (.node .nil (.node (.node (.node (.leaf (.node (.node (.node (.node (.node (.node (.leaf [e8]) .nil) .nil) .nil) .nil) .nil) .nil)) .nil) .nil) .nil)) .nil) .nil) .nil))))
noncomputable def O3 : Oracle:=O2.add k3
theorem k3_ok : KAll (EOk Tryz.prog xt gk O2 60) k3:=by
 obtain ⟨c6,c7,c8,c9,_⟩:=check_all b3_0
 exact ⟨⟨⟨⟨trivial,⟨⟨⟨trivial,⟨⟨⟨⟨⟨⟨⟨⟨⟨⟨c9,trivial⟩,trivial⟩,trivial⟩,trivial⟩,trivial⟩,trivial⟩,trivial⟩,trivial⟩,trivial⟩,trivial⟩⟩,trivial⟩,trivial⟩⟩,trivial⟩,⟨trivial,⟨⟨⟨⟨trivial,⟨⟨⟨⟨⟨⟨⟨⟨⟨⟨c7,trivial⟩,trivial⟩,trivial⟩,trivial⟩,trivial⟩,trivial⟩,trivial⟩,trivial⟩,trivial⟩,trivial⟩⟩,trivial⟩,trivial⟩,trivial⟩⟩⟩,⟨⟨trivial,⟨⟨⟨⟨trivial,⟨⟨⟨⟨⟨⟨⟨⟨⟨⟨c6,trivial⟩,trivial⟩,trivial⟩,trivial⟩,trivial⟩,trivial⟩,trivial⟩,trivial⟩,trivial⟩,trivial⟩⟩,trivial⟩,trivial⟩,trivial⟩⟩,⟨trivial,⟨⟨⟨⟨trivial,⟨⟨⟨⟨⟨⟨⟨⟨⟨⟨c8,trivial⟩,trivial⟩,trivial⟩,trivial⟩,trivial⟩,trivial⟩,trivial⟩,trivial⟩,trivial⟩,trivial⟩⟩,trivial⟩,trivial⟩,trivial⟩⟩⟩⟩
end Go.Proofs.YtohbeinhlhgfiaaGreatDoor
namespace Go.Proofs.YtohbeinhlhgfiaaGreatDoor
open Go Go.Rf Go.RowKit
noncomputable def e10 : Entry:=(26,[],(.bool true))
theorem b4_0 : check Tryz.prog xt gk O3 60 [e10] = true:=by kernel_rfl
end Go.Proofs.YtohbeinhlhgfiaaGreatDoor
namespace Go.Proofs.YtohbeinhlhgfiaaGreatDoor
open Go Go.Rf Go.RowKit
variable [Sym]
noncomputable def k4 : KT:=(.node (.node .nil (.node (.node .nil (.node .nil (.node (.node (.node (.node (.node (.leaf (.node (.node (.node (.node (.node (.node (.leaf [e10]) .nil) .nil) .nil) .nil) .nil) .nil)) .nil) .nil) .nil) .nil) .nil))) .nil)) .nil)
noncomputable def O4 : Oracle:=O3.add k4
theorem k4_ok : KAll (EOk Tryz.prog xt gk O3 60) k4:=by
 obtain ⟨c10,_⟩:=check_all b4_0
 exact ⟨⟨trivial,⟨⟨trivial,⟨trivial,⟨⟨⟨⟨⟨⟨⟨⟨⟨⟨⟨⟨c10,trivial⟩,trivial⟩,trivial⟩,trivial⟩,trivial⟩,trivial⟩,trivial⟩,trivial⟩,trivial⟩,trivial⟩,trivial⟩,trivial⟩⟩⟩,trivial⟩⟩,trivial⟩
end Go.Proofs.YtohbeinhlhgfiaaGreatDoor
