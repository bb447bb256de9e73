/- R1: a checked evaluator for calls, and what it shows (part). -/
import Derived.Test.YtjoechkdmdinoaaGreatDoorRX
set_option linter.all false
set_option linter.unusedSectionVars false
set_option linter.unusedVariables false
set_option linter.unusedSimpArgs false
namespace Go.Proofs.YtjoechkdmdinoaaGreatDoor
open Go Go.Rf Go.RowKit
noncomputable def e1 : Entry := (73, [], (.bool true))
noncomputable def e2 : Entry := (126, [(.string ⟨#[84, 73, 84, 76, 69, 32, 193]⟩), (.agg #[(.int .i64 0), (.int .i64 1), (.bool false), (.int .i64 0)])], (.tuple #[(.string ⟨#[84, 73, 84, 76, 69, 32, 208, 176]⟩), (.agg #[(.int .i64 0), (.int .i64 0)])]))
theorem b1_0 : check Tryz.prog xt gk O0 60 [e1, e2] = true := by kernel_rfl
noncomputable def e3 : Entry := (126, [(.string ⟨#[84, 73, 84, 76, 69, 32, 193]⟩), (.agg #[(.int .i64 0), (.int .i64 1), (.bool false), (.int .i64 7)])], (.tuple #[(.string ⟨#[]⟩), (.agg #[(.int .i64 4), (.int .i64 0)])]))
noncomputable def e4 : Entry := (134, [(.agg #[(.string ⟨#[97]⟩), (.string ⟨#[]⟩), (.string ⟨#[]⟩), (.string ⟨#[]⟩), (.string ⟨#[]⟩), (.int .u8 5), (.int .u8 17)])], (.tuple #[(.string ⟨#[84, 65, 71, 97, 0, 0, 0, 0, 0, 0, 0, 0, 0, 0, 0, 0, 0, 0, 0, 0, 0, 0, 0, 0, 0, 0, 0, 0, 0, 0, 0, 0, 0, 0, 0, 0, 0, 0, 0, 0, 0, 0, 0, 0, 0, 0, 0, 0, 0, 0, 0, 0, 0, 0, 0, 0, 0, 0, 0, 0, 0, 0, 0, 0, 0, 0, 0, 0, 0, 0, 0, 0, 0, 0, 0, 0, 0, 0, 0, 0, 0, 0, 0, 0, 0, 0, 0, 0, 0, 0, 0, 0, 0, 0, 0, 0, 0, 0, 0, 0, 0, 0, 0, 0, 0, 0, 0, 0, 0, 0, 0, 0, 0, 0, 0, 0, 0, 0, 0, 0, 0, 0, 0, 0, 0, 0, 5, 17]⟩), (.agg #[(.int .i64 0), (.int .i64 0)])]))
noncomputable def e5 : Entry := (136, [], (.bool true))
theorem b1_1 : check Tryz.prog xt gk O0 60 [e3, e4, e5] = true := by kernel_rfl
noncomputable def e6 : Entry := (397, [(.agg #[(.int .u8 2), (.int .u64 0), (.int .u32 0), (.int .u32 0), (.string ⟨#[7]⟩), (.string ⟨#[1, 118, 111, 114, 98, 105, 115]⟩)])], (.int .u32 2942021038))
noncomputable def e7 : Entry := (397, [(.agg #[(.int .u8 0), (.int .u64 0), (.int .u32 0), (.int .u32 1), (.string ⟨#[16, 7]⟩), (.string ⟨#[3, 118, 111, 114, 98, 105, 115, 0, 0, 0, 0, 0, 0, 0, 0, 1, 5, 118, 111, 114, 98, 105, 115]⟩)])], (.int .u32 643773785))
noncomputable def e8 : Entry := (402, [(.agg #[(.int .u8 0), (.int .u64 0), (.int .u32 0), (.int .u32 0), (.string ⟨#[]⟩), (.string ⟨#[]⟩)])], (.tuple #[(.string ⟨#[79, 103, 103, 83, 0, 0, 0, 0, 0, 0, 0, 0, 0, 0, 0, 0, 0, 0, 0, 0, 0, 0, 17, 165, 161, 158, 0]⟩), (.agg #[(.int .i64 0), (.int .i64 0)])]))
theorem b1_2 : check Tryz.prog xt gk O0 60 [e6, e7, e8] = true := by kernel_rfl
end Go.Proofs.YtjoechkdmdinoaaGreatDoor
namespace Go.Proofs.YtjoechkdmdinoaaGreatDoor
open Go Go.Rf Go.RowKit
noncomputable def e9 : Entry := (402, [(.agg #[(.int .u8 2), (.int .u64 0), (.int .u32 0), (.int .u32 0), (.string ⟨#[7]⟩), (.string ⟨#[1, 118, 111, 114, 98, 105, 115]⟩)])], (.tuple #[(.string ⟨#[79, 103, 103, 83, 0, 2, 0, 0, 0, 0, 0, 0, 0, 0, 0, 0, 0, 0, 0, 0, 0, 0, 174, 173, 91, 175, 1, 7, 1, 118, 111, 114, 98, 105, 115]⟩), (.agg #[(.int .i64 0), (.int .i64 0)])]))
noncomputable def e10 : Entry := (402, [(.agg #[(.int .u8 0), (.int .u64 0), (.int .u32 0), (.int .u32 1), (.string ⟨#[16, 7]⟩), (.string ⟨#[3, 118, 111, 114, 98, 105, 115, 0, 0, 0, 0, 0, 0, 0, 0, 1, 5, 118, 111, 114, 98, 105, 115]⟩)])], (.tuple #[(.string ⟨#[79, 103, 103, 83, 0, 0, 0, 0, 0, 0, 0, 0, 0, 0, 0, 0, 0, 0, 1, 0, 0, 0, 89, 53, 95, 38, 2, 16, 7, 3, 118, 111, 114, 98, 105, 115, 0, 0, 0, 0, 0, 0, 0, 0, 1, 5, 118, 111, 114, 98, 105, 115]⟩), (.agg #[(.int .i64 0), (.int .i64 0)])]))
noncomputable def e11 : Entry := (430, [], (.bool true))
theorem b1_3 : check Tryz.prog xt gk O0 60 [e9, e10, e11] = true := by kernel_rfl
end Go.Proofs.YtjoechkdmdinoaaGreatDoor
namespace Go.Proofs.YtjoechkdmdinoaaGreatDoor
open Go Go.Rf Go.RowKit
variable [Sym]
noncomputable def k1 : KT := (.node (.node (.node (.node .nil (.node (.node (.node (.node .nil (.node (.node (.leaf (.node (.node (.node (.node (.node (.node (.leaf [e5]) .nil) .nil) .nil) .nil) .nil) .nil)) .nil) .nil)) .nil) .nil) .nil)) .nil) (.node (.node (.node .nil (.node (.node (.node .nil (.node .nil (.node (.leaf (.node (.node (.node (.node (.node (.node (.leaf [e8, e9, e10]) .nil) .nil) .nil) .nil) .nil) .nil)) .nil))) .nil) .nil)) .nil) (.node (.node (.node (.node (.node .nil (.node (.node (.leaf (.node (.node (.node (.node (.node (.node (.leaf [e4]) .nil) .nil) .nil) .nil) .nil) .nil)) .nil) .nil)) .nil) .nil) .nil) (.node (.node .nil (.node (.node .nil (.node .nil (.node (.leaf (.node (.node (.node (.node (.node (.node (.leaf [e11]) .nil) .nil) .nil) .nil) .nil) .nil)) .nil))) .nil)) (.node .nil (.node .nil (.node (.node (.node (.leaf (.node (.node .nil (.node (.node (.node (.node .nil (.leaf [e2, e3])) .nil) .nil) .nil)) .nil)) .nil) .nil) .nil))))))) (.node (.node (.node .nil (.node (.node (.node .nil (.node (.node (.node (.leaf (.node (.node (.node (.node (.node (.node (.leaf [e1]) .nil) .nil) .nil) .nil) .nil) .nil)) .nil) .nil) .nil)) .nil) .nil)) (.node .nil (.node (.node (.node (.node .nil (.node .nil (.node (.leaf (.node (.node (.node (.node (.node (.node (.leaf [e6, e7]) .nil) .nil) .nil) .nil) .nil) .nil)) .nil))) .nil) .nil) .nil))) .nil))
noncomputable def O1 : Oracle := O0.add k1
theorem k1_ok : KAll (EOk Tryz.prog xt gk O0 60) k1 := by
  obtain ⟨c1, c2, _⟩ := check_all b1_0
  obtain ⟨c3, c4, c5, _⟩ := check_all b1_1
  obtain ⟨c6, c7, c8, _⟩ := check_all b1_2
  obtain ⟨c9, c10, c11, _⟩ := check_all b1_3
  exact ⟨⟨⟨⟨trivial, ⟨⟨⟨⟨trivial, ⟨⟨⟨⟨⟨⟨⟨⟨⟨c5, trivial⟩, trivial⟩, trivial⟩, trivial⟩, trivial⟩, trivial⟩, trivial⟩, trivial⟩, trivial⟩⟩, trivial⟩, trivial⟩, trivial⟩⟩, trivial⟩, ⟨⟨⟨trivial, ⟨⟨⟨trivial, ⟨trivial, ⟨⟨⟨⟨⟨⟨⟨⟨c8, c9, c10, trivial⟩, trivial⟩, trivial⟩, trivial⟩, trivial⟩, trivial⟩, trivial⟩, trivial⟩⟩⟩, trivial⟩, trivial⟩⟩, trivial⟩, ⟨⟨⟨⟨⟨trivial, ⟨⟨⟨⟨⟨⟨⟨⟨⟨c4, trivial⟩, trivial⟩, trivial⟩, trivial⟩, trivial⟩, trivial⟩, trivial⟩, trivial⟩, trivial⟩⟩, trivial⟩, trivial⟩, trivial⟩, ⟨⟨trivial, ⟨⟨trivial, ⟨trivial, ⟨⟨⟨⟨⟨⟨⟨⟨c11, trivial⟩, trivial⟩, trivial⟩, trivial⟩, trivial⟩, trivial⟩, trivial⟩, trivial⟩⟩⟩, trivial⟩⟩, ⟨trivial, ⟨trivial, ⟨⟨⟨⟨⟨trivial, ⟨⟨⟨⟨trivial, ⟨c2, c3, trivial⟩⟩, trivial⟩, trivial⟩, trivial⟩⟩, trivial⟩, trivial⟩, trivial⟩, trivial⟩⟩⟩⟩⟩⟩⟩, ⟨⟨⟨trivial, ⟨⟨⟨trivial, ⟨⟨⟨⟨⟨⟨⟨⟨⟨⟨c1, trivial⟩, trivial⟩, trivial⟩, trivial⟩, trivial⟩, trivial⟩, trivial⟩, trivial⟩, trivial⟩, trivial⟩⟩, trivial⟩, trivial⟩⟩, ⟨trivial, ⟨⟨⟨⟨trivial, ⟨trivial, ⟨⟨⟨⟨⟨⟨⟨⟨c6, c7, trivial⟩, trivial⟩, trivial⟩, trivial⟩, trivial⟩, trivial⟩, trivial⟩, trivial⟩⟩⟩, trivial⟩, trivial⟩, trivial⟩⟩⟩, trivial⟩⟩
end Go.Proofs.YtjoechkdmdinoaaGreatDoor
namespace Go.Proofs.YtjoechkdmdinoaaGreatDoor
open Go Go.Rf Go.RowKit
noncomputable def e12 : Entry := (75, [], (.bool true))
noncomputable def e13 : Entry := (138, [], (.bool true))
noncomputable def e14 : Entry := (267, [], (.bool true))
noncomputable def e15 : Entry := (325, [(.agg #[(.int .u8 2), (.int .u64 0), (.int .u32 0), (.int .u32 0), (.string ⟨#[7]⟩), (.string ⟨#[1, 118, 111, 114, 98, 105, 115]⟩), (.string ⟨#[]⟩), (.int .i64 0), (.slice none 0 0), (.string ⟨#[5, 118, 111, 114, 98, 105, 115]⟩), (.slice none 0 0)])], (.tuple #[(.string ⟨#[79, 103, 103, 83, 0, 2, 0, 0, 0, 0, 0, 0, 0, 0, 0, 0, 0, 0, 0, 0, 0, 0, 174, 173, 91, 175, 1, 7, 1, 118, 111, 114, 98, 105, 115, 79, 103, 103, 83, 0, 0, 0, 0, 0, 0, 0, 0, 0, 0, 0, 0, 0, 0, 1, 0, 0, 0, 89, 53, 95, 38, 2, 16, 7, 3, 118, 111, 114, 98, 105, 115, 0, 0, 0, 0, 0, 0, 0, 0, 1, 5, 118, 111, 114, 98, 105, 115]⟩), (.agg #[(.int .i64 0), (.int .i64 0)])]))
theorem b2_0 : check Tryz.prog xt gk O1 60 [e12, e13, e14, e15] = true := by kernel_rfl
noncomputable def e16 : Entry := (354, [], (.bool true))
noncomputable def e17 : Entry := (358, [], (.bool true))
noncomputable def e18 : Entry := (433, [], (.bool true))
theorem b2_1 : check Tryz.prog xt gk O1 60 [e16, e17, e18] = true := by kernel_rfl
end Go.Proofs.YtjoechkdmdinoaaGreatDoor
namespace Go.Proofs.YtjoechkdmdinoaaGreatDoor
open Go Go.Rf Go.RowKit
variable [Sym]
noncomputable def k2 : KT := (.node (.node .nil (.node (.node (.node (.node .nil (.node .nil (.node (.node .nil (.node (.leaf (.node (.node (.node (.node (.node (.node (.leaf [e16]) .nil) .nil) .nil) .nil) .nil) .nil)) .nil)) .nil))) .nil) (.node (.node (.node (.node .nil (.node (.node (.leaf (.node (.node (.node (.node (.node (.node (.leaf [e13]) .nil) .nil) .nil) .nil) .nil) .nil)) .nil) .nil)) .nil) .nil) .nil)) (.node (.node (.node .nil (.node .nil (.node (.node .nil (.node (.leaf (.node (.node (.node (.node (.node (.node (.leaf [e17]) .nil) .nil) .nil) .nil) .nil) .nil)) .nil)) .nil))) .nil) .nil))) (.node (.node (.node (.node .nil (.node .nil (.node (.node .nil (.node .nil (.node (.leaf (.node (.node (.node (.node (.node (.node (.leaf [e18]) .nil) .nil) .nil) .nil) .nil) .nil)) .nil))) .nil))) .nil) (.node (.node (.node (.node .nil (.node (.node .nil (.node (.leaf (.node (.node (.node (.node (.node (.node (.leaf [e15]) .nil) .nil) .nil) .nil) .nil) .nil)) .nil)) .nil)) .nil) .nil) .nil)) (.node (.node .nil (.node (.node (.node (.node (.node .nil (.node (.leaf (.node (.node (.node (.node (.node (.node (.leaf [e14]) .nil) .nil) .nil) .nil) .nil) .nil)) .nil)) .nil) (.node (.node (.node (.leaf (.node (.node (.node (.node (.node (.node (.leaf [e12]) .nil) .nil) .nil) .nil) .nil) .nil)) .nil) .nil) .nil)) .nil) .nil)) .nil)))
noncomputable def O2 : Oracle := O1.add k2
theorem k2_ok : KAll (EOk Tryz.prog xt gk O1 60) k2 := by
  obtain ⟨c12, c13, c14, c15, _⟩ := check_all b2_0
  obtain ⟨c16, c17, c18, _⟩ := check_all b2_1
  exact ⟨⟨trivial, ⟨⟨⟨⟨trivial, ⟨trivial, ⟨⟨trivial, ⟨⟨⟨⟨⟨⟨⟨⟨c16, trivial⟩, trivial⟩, trivial⟩, trivial⟩, trivial⟩, trivial⟩, trivial⟩, trivial⟩⟩, trivial⟩⟩⟩, trivial⟩, ⟨⟨⟨⟨trivial, ⟨⟨⟨⟨⟨⟨⟨⟨⟨c13, trivial⟩, trivial⟩, trivial⟩, trivial⟩, trivial⟩, trivial⟩, trivial⟩, trivial⟩, trivial⟩⟩, trivial⟩, trivial⟩, trivial⟩⟩, ⟨⟨⟨trivial, ⟨trivial, ⟨⟨trivial, ⟨⟨⟨⟨⟨⟨⟨⟨c17, trivial⟩, trivial⟩, trivial⟩, trivial⟩, trivial⟩, trivial⟩, trivial⟩, trivial⟩⟩, trivial⟩⟩⟩, trivial⟩, trivial⟩⟩⟩, ⟨⟨⟨⟨trivial, ⟨trivial, ⟨⟨trivial, ⟨trivial, ⟨⟨⟨⟨⟨⟨⟨⟨c18, trivial⟩, trivial⟩, trivial⟩, trivial⟩, trivial⟩, trivial⟩, trivial⟩, trivial⟩⟩⟩, trivial⟩⟩⟩, trivial⟩, ⟨⟨⟨⟨trivial, ⟨⟨trivial, ⟨⟨⟨⟨⟨⟨⟨⟨c15, trivial⟩, trivial⟩, trivial⟩, trivial⟩, trivial⟩, trivial⟩, trivial⟩, trivial⟩⟩, trivial⟩⟩, trivial⟩, trivial⟩, trivial⟩⟩, ⟨⟨trivial, ⟨⟨⟨⟨⟨trivial, ⟨⟨⟨⟨⟨⟨⟨⟨c14, trivial⟩, trivial⟩, trivial⟩, trivial⟩, trivial⟩, trivial⟩, trivial⟩, trivial⟩⟩, trivial⟩, ⟨⟨⟨⟨⟨⟨⟨⟨⟨⟨c12, trivial⟩, trivial⟩, trivial⟩, trivial⟩, trivial⟩, trivial⟩, trivial⟩, trivial⟩, trivial⟩, trivial⟩⟩, trivial⟩, trivial⟩⟩, trivial⟩⟩⟩
end Go.Proofs.YtjoechkdmdinoaaGreatDoor
namespace Go.Proofs.YtjoechkdmdinoaaGreatDoor
open Go Go.Rf Go.RowKit
noncomputable def e19 : Entry := (76, [], (.bool true))
noncomputable def e20 : Entry := (77, [], (.bool true))
noncomputable def e21 : Entry := (78, [], (.bool true))
noncomputable def e22 : Entry := (79, [], (.bool true))
theorem b3_0 : check Tryz.prog xt gk O2 60 [e19, e20, e21, e22] = true := by kernel_rfl
noncomputable def e23 : Entry := (268, [], (.bool true))
noncomputable def e24 : Entry := (270, [], (.bool true))
theorem b3_1 : check Tryz.prog xt gk O2 60 [e23, e24] = true := by kernel_rfl
noncomputable def e25 : Entry := (356, [], (.bool true))
theorem b3_2 : check Tryz.prog xt gk O2 60 [e25] = true := by kernel_rfl
end Go.Proofs.YtjoechkdmdinoaaGreatDoor
namespace Go.Proofs.YtjoechkdmdinoaaGreatDoor
open Go Go.Rf Go.RowKit
variable [Sym]
noncomputable def k3 : KT := (.node (.node (.node .nil (.node (.node (.node .nil (.node .nil (.node (.node .nil (.node (.leaf (.node (.node (.node (.node (.node (.node (.leaf [e25]) .nil) .nil) .nil) .nil) .nil) .nil)) .nil)) .nil))) .nil) (.node (.node (.node (.node (.node .nil (.node (.leaf (.node (.node (.node (.node (.node (.node (.leaf [e23]) .nil) .nil) .nil) .nil) .nil) .nil)) .nil)) .nil) (.node (.node (.node (.leaf (.node (.node (.node (.node (.node (.node (.leaf [e19]) .nil) .nil) .nil) .nil) .nil) .nil)) .nil) .nil) .nil)) .nil) .nil))) (.node .nil (.node .nil (.node (.node (.node (.node (.node .nil (.node (.leaf (.node (.node (.node (.node (.node (.node (.leaf [e24]) .nil) .nil) .nil) .nil) .nil) .nil)) .nil)) .nil) (.node (.node (.node (.leaf (.node (.node (.node (.node (.node (.node (.leaf [e21]) .nil) .nil) .nil) .nil) .nil) .nil)) .nil) .nil) .nil)) .nil) .nil)))) (.node (.node .nil (.node .nil (.node (.node (.node .nil (.node (.node (.node (.leaf (.node (.node (.node (.node (.node (.node (.leaf [e20]) .nil) .nil) .nil) .nil) .nil) .nil)) .nil) .nil) .nil)) .nil) .nil))) (.node .nil (.node .nil (.node (.node (.node .nil (.node (.node (.node (.leaf (.node (.node (.node (.node (.node (.node (.leaf [e22]) .nil) .nil) .nil) .nil) .nil) .nil)) .nil) .nil) .nil)) .nil) .nil)))))
noncomputable def O3 : Oracle := O2.add k3
theorem k3_ok : KAll (EOk Tryz.prog xt gk O2 60) k3 := by
  obtain ⟨c19, c20, c21, c22, _⟩ := check_all b3_0
  obtain ⟨c23, c24, _⟩ := check_all b3_1
  obtain ⟨c25, _⟩ := check_all b3_2
  exact ⟨⟨⟨trivial, ⟨⟨⟨trivial, ⟨trivial, ⟨⟨trivial, ⟨⟨⟨⟨⟨⟨⟨⟨c25, trivial⟩, trivial⟩, trivial⟩, trivial⟩, trivial⟩, trivial⟩, trivial⟩, trivial⟩⟩, trivial⟩⟩⟩, trivial⟩, ⟨⟨⟨⟨⟨trivial, ⟨⟨⟨⟨⟨⟨⟨⟨c23, trivial⟩, trivial⟩, trivial⟩, trivial⟩, trivial⟩, trivial⟩, trivial⟩, trivial⟩⟩, trivial⟩, ⟨⟨⟨⟨⟨⟨⟨⟨⟨⟨c19, trivial⟩, trivial⟩, trivial⟩, trivial⟩, trivial⟩, trivial⟩, trivial⟩, trivial⟩, trivial⟩, trivial⟩⟩, trivial⟩, trivial⟩⟩⟩, ⟨trivial, ⟨trivial, ⟨⟨⟨⟨⟨trivial, ⟨⟨⟨⟨⟨⟨⟨⟨c24, trivial⟩, trivial⟩, trivial⟩, trivial⟩, trivial⟩, trivial⟩, trivial⟩, trivial⟩⟩, trivial⟩, ⟨⟨⟨⟨⟨⟨⟨⟨⟨⟨c21, trivial⟩, trivial⟩, trivial⟩, trivial⟩, trivial⟩, trivial⟩, trivial⟩, trivial⟩, trivial⟩, trivial⟩⟩, trivial⟩, trivial⟩⟩⟩⟩, ⟨⟨trivial, ⟨trivial, ⟨⟨⟨trivial, ⟨⟨⟨⟨⟨⟨⟨⟨⟨⟨c20, trivial⟩, trivial⟩, trivial⟩, trivial⟩, trivial⟩, trivial⟩, trivial⟩, trivial⟩, trivial⟩, trivial⟩⟩, trivial⟩, trivial⟩⟩⟩, ⟨trivial, ⟨trivial, ⟨⟨⟨trivial, ⟨⟨⟨⟨⟨⟨⟨⟨⟨⟨c22, trivial⟩, trivial⟩, trivial⟩, trivial⟩, trivial⟩, trivial⟩, trivial⟩, trivial⟩, trivial⟩, trivial⟩⟩, trivial⟩, trivial⟩⟩⟩⟩⟩
end Go.Proofs.YtjoechkdmdinoaaGreatDoor
