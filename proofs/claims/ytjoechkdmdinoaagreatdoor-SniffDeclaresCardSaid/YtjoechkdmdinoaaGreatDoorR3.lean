/- R3: a checked evaluator for calls, and what it shows (part). -/
import Derived.Test.YtjoechkdmdinoaaGreatDoorR2
set_option linter.all false
set_option linter.unusedSectionVars false
set_option linter.unusedVariables false
set_option linter.unusedSimpArgs false
namespace Go.Proofs.YtjoechkdmdinoaaGreatDoor
open Go Go.Rf Go.RowKit
noncomputable def e30 : Entry := (101, [], (.bool true))
theorem b7_0 : check Tryz.prog xt gk O6 60 [e30] = true := by kernel_rfl
end Go.Proofs.YtjoechkdmdinoaaGreatDoor
namespace Go.Proofs.YtjoechkdmdinoaaGreatDoor
open Go Go.Rf Go.RowKit
variable [Sym]
noncomputable def k7 : KT := (.node .nil (.node (.node .nil (.node (.node (.node .nil (.node .nil (.node (.node (.node (.leaf (.node (.node (.node (.node (.node (.node (.leaf [e30]) .nil) .nil) .nil) .nil) .nil) .nil)) .nil) .nil) .nil))) .nil) .nil)) .nil))
noncomputable def O7 : Oracle := O6.add k7
theorem k7_ok : KAll (EOk Tryz.prog xt gk O6 60) k7 := by
  obtain ⟨c30, _⟩ := check_all b7_0
  exact ⟨trivial, ⟨⟨trivial, ⟨⟨⟨trivial, ⟨trivial, ⟨⟨⟨⟨⟨⟨⟨⟨⟨⟨c30, trivial⟩, trivial⟩, trivial⟩, trivial⟩, trivial⟩, trivial⟩, trivial⟩, trivial⟩, trivial⟩, trivial⟩⟩⟩, trivial⟩, trivial⟩⟩, trivial⟩⟩
end Go.Proofs.YtjoechkdmdinoaaGreatDoor
namespace Go.Proofs.YtjoechkdmdinoaaGreatDoor
open Go Go.Rf Go.RowKit
noncomputable def e31 : Entry := (54, [], (.bool true))
theorem b8_0 : check Tryz.prog xt gk O7 60 [e31] = true := by kernel_rfl
end Go.Proofs.YtjoechkdmdinoaaGreatDoor
namespace Go.Proofs.YtjoechkdmdinoaaGreatDoor
open Go Go.Rf Go.RowKit
variable [Sym]
noncomputable def k8 : KT := (.node (.node .nil (.node .nil (.node (.node .nil (.node .nil (.node (.node (.node (.node (.leaf (.node (.node (.node (.node (.node (.node (.leaf [e31]) .nil) .nil) .nil) .nil) .nil) .nil)) .nil) .nil) .nil) .nil))) .nil))) .nil)
noncomputable def O8 : Oracle := O7.add k8
theorem k8_ok : KAll (EOk Tryz.prog xt gk O7 60) k8 := by
  obtain ⟨c31, _⟩ := check_all b8_0
  exact ⟨⟨trivial, ⟨trivial, ⟨⟨trivial, ⟨trivial, ⟨⟨⟨⟨⟨⟨⟨⟨⟨⟨⟨c31, trivial⟩, trivial⟩, trivial⟩, trivial⟩, trivial⟩, trivial⟩, trivial⟩, trivial⟩, trivial⟩, trivial⟩, trivial⟩⟩⟩, trivial⟩⟩⟩, trivial⟩
end Go.Proofs.YtjoechkdmdinoaaGreatDoor
namespace Go.Proofs.YtjoechkdmdinoaaGreatDoor
open Go Go.Rf Go.RowKit
noncomputable def e32 : Entry := (65, [], (.bool true))
theorem b9_0 : check Tryz.prog xt gk O8 60 [e32] = true := by kernel_rfl
end Go.Proofs.YtjoechkdmdinoaaGreatDoor
namespace Go.Proofs.YtjoechkdmdinoaaGreatDoor
open Go Go.Rf Go.RowKit
variable [Sym]
noncomputable def k9 : KT := (.node .nil (.node (.node (.node (.node (.node (.node .nil (.node (.node (.node (.leaf (.node (.node (.node (.node (.node (.node (.leaf [e32]) .nil) .nil) .nil) .nil) .nil) .nil)) .nil) .nil) .nil)) .nil) .nil) .nil) .nil) .nil))
noncomputable def O9 : Oracle := O8.add k9
theorem k9_ok : KAll (EOk Tryz.prog xt gk O8 60) k9 := by
  obtain ⟨c32, _⟩ := check_all b9_0
  exact ⟨trivial, ⟨⟨⟨⟨⟨⟨trivial, ⟨⟨⟨⟨⟨⟨⟨⟨⟨⟨c32, trivial⟩, trivial⟩, trivial⟩, trivial⟩, trivial⟩, trivial⟩, trivial⟩, trivial⟩, trivial⟩, trivial⟩⟩, trivial⟩, trivial⟩, trivial⟩, trivial⟩, trivial⟩⟩
end Go.Proofs.YtjoechkdmdinoaaGreatDoor
