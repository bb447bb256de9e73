/- R2: a checked evaluator for calls, and what it shows (part). -/
import Derived.Test.YtjoechkdmdinoaaGreatDoorR1
set_option linter.all false
set_option linter.unusedSectionVars false
set_option linter.unusedVariables false
set_option linter.unusedSimpArgs false
namespace Go.Proofs.YtjoechkdmdinoaaGreatDoor
open Go Go.Rf Go.RowKit
noncomputable def e26 : Entry := (36, [], (.bool true))
noncomputable def e27 : Entry := (357, [], (.bool true))
theorem b4_0 : check Tryz.prog xt gk O3 60 [e26, e27] = true := by kernel_rfl
end Go.Proofs.YtjoechkdmdinoaaGreatDoor
namespace Go.Proofs.YtjoechkdmdinoaaGreatDoor
open Go Go.Rf Go.RowKit
variable [Sym]
noncomputable def k4 : KT := (.node (.node (.node .nil (.node (.node (.node .nil (.node (.node (.node (.node (.leaf (.node (.node (.node (.node (.node (.node (.leaf [e26]) .nil) .nil) .nil) .nil) .nil) .nil)) .nil) .nil) .nil) .nil)) .nil) .nil)) .nil) (.node (.node .nil (.node (.node (.node .nil (.node .nil (.node (.node .nil (.node (.leaf (.node (.node (.node (.node (.node (.node (.leaf [e27]) .nil) .nil) .nil) .nil) .nil) .nil)) .nil)) .nil))) .nil) .nil)) .nil))
noncomputable def O4 : Oracle := O3.add k4
theorem k4_ok : KAll (EOk Tryz.prog xt gk O3 60) k4 := by
  obtain ⟨c26, c27, _⟩ := check_all b4_0
  exact ⟨⟨⟨trivial, ⟨⟨⟨trivial, ⟨⟨⟨⟨⟨⟨⟨⟨⟨⟨⟨c26, trivial⟩, trivial⟩, trivial⟩, trivial⟩, trivial⟩, trivial⟩, trivial⟩, trivial⟩, trivial⟩, trivial⟩, trivial⟩⟩, trivial⟩, trivial⟩⟩, trivial⟩, ⟨⟨trivial, ⟨⟨⟨trivial, ⟨trivial, ⟨⟨trivial, ⟨⟨⟨⟨⟨⟨⟨⟨c27, trivial⟩, trivial⟩, trivial⟩, trivial⟩, trivial⟩, trivial⟩, trivial⟩, trivial⟩⟩, trivial⟩⟩⟩, trivial⟩, trivial⟩⟩, trivial⟩⟩
end Go.Proofs.YtjoechkdmdinoaaGreatDoor
namespace Go.Proofs.YtjoechkdmdinoaaGreatDoor
open Go Go.Rf Go.RowKit
noncomputable def e28 : Entry := (269, [], (.bool true))
theorem b5_0 : check Tryz.prog xt gk O4 60 [e28] = true := by kernel_rfl
end Go.Proofs.YtjoechkdmdinoaaGreatDoor
namespace Go.Proofs.YtjoechkdmdinoaaGreatDoor
open Go Go.Rf Go.RowKit
variable [Sym]
noncomputable def k5 : KT := (.node .nil (.node (.node .nil (.node .nil (.node (.node (.node (.node (.node .nil (.node (.leaf (.node (.node (.node (.node (.node (.node (.leaf [e28]) .nil) .nil) .nil) .nil) .nil) .nil)) .nil)) .nil) .nil) .nil) .nil))) .nil))
noncomputable def O5 : Oracle := O4.add k5
theorem k5_ok : KAll (EOk Tryz.prog xt gk O4 60) k5 := by
  obtain ⟨c28, _⟩ := check_all b5_0
  exact ⟨trivial, ⟨⟨trivial, ⟨trivial, ⟨⟨⟨⟨⟨trivial, ⟨⟨⟨⟨⟨⟨⟨⟨c28, trivial⟩, trivial⟩, trivial⟩, trivial⟩, trivial⟩, trivial⟩, trivial⟩, trivial⟩⟩, trivial⟩, trivial⟩, trivial⟩, trivial⟩⟩⟩, trivial⟩⟩
end Go.Proofs.YtjoechkdmdinoaaGreatDoor
namespace Go.Proofs.YtjoechkdmdinoaaGreatDoor
open Go Go.Rf Go.RowKit
noncomputable def e29 : Entry := (178, [], (.bool true))
theorem b6_0 : check Tryz.prog xt gk O5 60 [e29] = true := by kernel_rfl
end Go.Proofs.YtjoechkdmdinoaaGreatDoor
namespace Go.Proofs.YtjoechkdmdinoaaGreatDoor
open Go Go.Rf Go.RowKit
variable [Sym]
noncomputable def k6 : KT := (.node (.node .nil (.node (.node (.node .nil (.node .nil (.node (.node .nil (.node (.node (.leaf (.node (.node (.node (.node (.node (.node (.leaf [e29]) .nil) .nil) .nil) .nil) .nil) .nil)) .nil) .nil)) .nil))) .nil) .nil)) .nil)
noncomputable def O6 : Oracle := O5.add k6
theorem k6_ok : KAll (EOk Tryz.prog xt gk O5 60) k6 := by
  obtain ⟨c29, _⟩ := check_all b6_0
  exact ⟨⟨trivial, ⟨⟨⟨trivial, ⟨trivial, ⟨⟨trivial, ⟨⟨⟨⟨⟨⟨⟨⟨⟨c29, trivial⟩, trivial⟩, trivial⟩, trivial⟩, trivial⟩, trivial⟩, trivial⟩, trivial⟩, trivial⟩⟩, trivial⟩⟩⟩, trivial⟩, trivial⟩⟩, trivial⟩
end Go.Proofs.YtjoechkdmdinoaaGreatDoor
