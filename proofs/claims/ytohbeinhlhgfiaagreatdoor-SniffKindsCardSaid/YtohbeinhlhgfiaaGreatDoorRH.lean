/- RH: a checked evaluator for calls, and what it shows (part). -/
import Derived.Test.YtohbeinhlhgfiaaGreatDoorGw
import Derived.Test.YtohbeinhlhgfiaaGreatDoorR3
set_option linter.all false
set_option linter.unusedSectionVars false
set_option linter.unusedVariables false
set_option linter.unusedSimpArgs false
namespace Go.Proofs.YtohbeinhlhgfiaaGreatDoor
open Go Go.Rf Go.RowKit
set_option linter.unusedVariables false
theorem k0_ok : KAll SQ k0:=⟨⟨⟨⟨⟨trivial,⟨⟨trivial,⟨trivial,⟨⟨⟨⟨⟨⟨⟨⟨⟨sq08,trivial⟩,trivial⟩,trivial⟩,trivial⟩,trivial⟩,trivial⟩,trivial⟩,trivial⟩,trivial⟩⟩⟩,trivial⟩⟩,trivial⟩,trivial⟩,⟨⟨⟨⟨⟨⟨trivial,⟨⟨⟨⟨⟨⟨⟨⟨⟨sq02,trivial⟩,trivial⟩,trivial⟩,trivial⟩,trivial⟩,trivial⟩,trivial⟩,trivial⟩,trivial⟩⟩,trivial⟩,trivial⟩,trivial⟩,trivial⟩,⟨⟨⟨⟨⟨trivial,⟨⟨⟨⟨⟨⟨⟨⟨⟨sq09,trivial⟩,trivial⟩,trivial⟩,trivial⟩,trivial⟩,trivial⟩,trivial⟩,trivial⟩,trivial⟩⟩,trivial⟩,trivial⟩,trivial⟩,⟨⟨⟨trivial,⟨trivial,⟨⟨⟨⟨⟨⟨⟨⟨⟨sq06,trivial⟩,trivial⟩,trivial⟩,trivial⟩,trivial⟩,trivial⟩,trivial⟩,trivial⟩,trivial⟩⟩⟩,trivial⟩,trivial⟩⟩⟩⟩,⟨⟨trivial,⟨trivial,⟨⟨⟨trivial,⟨trivial,⟨⟨⟨⟨⟨⟨⟨⟨⟨sq05,trivial⟩,trivial⟩,trivial⟩,trivial⟩,trivial⟩,trivial⟩,trivial⟩,trivial⟩,trivial⟩⟩⟩,trivial⟩,trivial⟩⟩⟩,⟨⟨⟨⟨⟨⟨⟨trivial,⟨⟨⟨⟨⟨⟨⟨⟨sq04,trivial⟩,trivial⟩,trivial⟩,trivial⟩,trivial⟩,trivial⟩,trivial⟩,trivial⟩⟩,trivial⟩,⟨⟨⟨⟨⟨⟨⟨⟨⟨⟨sq10,trivial⟩,trivial⟩,trivial⟩,trivial⟩,trivial⟩,trivial⟩,trivial⟩,trivial⟩,⟨⟨⟨⟨⟨⟨⟨⟨sq_of (by decide) (by kernel_rfl),trivial⟩,trivial⟩,trivial⟩,⟨trivial,⟨⟨sq_of (by decide) (by kernel_rfl),trivial⟩,trivial⟩⟩⟩,⟨⟨⟨⟨sq_of (by decide) (by kernel_rfl),trivial⟩,trivial⟩,trivial⟩,⟨⟨⟨sq_of (by decide) (by kernel_rfl),trivial⟩,trivial⟩,⟨trivial,⟨sq_of (by decide) (by kernel_rfl),trivial⟩⟩⟩⟩⟩,⟨⟨⟨trivial,⟨⟨sq_of (by decide) (by kernel_rfl),sq_of (by decide) (by kernel_rfl),trivial⟩,trivial⟩⟩,trivial⟩,trivial⟩⟩,⟨trivial,⟨⟨⟨⟨trivial,⟨sq_of (by decide) (by kernel_rfl),trivial⟩⟩,trivial⟩,⟨⟨trivial,⟨sq_of (by decide) (by kernel_rfl),trivial⟩⟩,trivial⟩⟩,trivial⟩⟩⟩,trivial⟩⟩,trivial⟩⟩,trivial⟩,trivial⟩,trivial⟩,⟨trivial,⟨⟨⟨trivial,⟨trivial,⟨⟨⟨⟨⟨⟨⟨⟨⟨sq07,trivial⟩,trivial⟩,trivial⟩,trivial⟩,trivial⟩,trivial⟩,trivial⟩,trivial⟩,trivial⟩⟩⟩,trivial⟩,trivial⟩⟩⟩⟩⟩
theorem o0_ok {W : World} (h : GW W) : OOk Tryz.prog W W.heap.size O0:=fun f vs v hk w hb hs=>by
 simp only [O0,Oracle.add] at hk
 split at hk
 · rename_i u hu
   cases hk
   exact lookT_all k0_ok hu w (h.tw.bel hb)
 · cases hk
end Go.Proofs.YtohbeinhlhgfiaaGreatDoor
namespace Go.Proofs.YtohbeinhlhgfiaaGreatDoor
open Go Go.Rf Go.RowKit
set_option linter.unusedVariables false
noncomputable abbrev O9 : Oracle:=O4
theorem s0_ok {W : World} {O : Oracle} (h : O.sym = fun _ _=>none:=by rfl) (h' : O.row = fun _ _=>none:=by rfl) : SOk Tryz.prog W W.heap.size O:=⟨fun f args r hk=>(by rw [h] at hk;cases hk),fun f args r hk=>(by rw [h'] at hk;cases hk)⟩
theorem ol_ok {W : World} (h : GW W) : OOk Tryz.prog W W.heap.size O4:=(layer mixed k4_ok h.gok (layer mixed k3_ok h.gok (layer mixed k2_ok h.gok (layer mixed k1_ok h.gok (o0_ok h) s0_ok) s0_ok) s0_ok) s0_ok)
theorem awk01 {W : World} (h : GW W) : Calls Tryz.prog 137 #[] W fun e w'=>e = .returned (.bool true) ∧ Below W.heap.size W w':=
 ol_ok h 137 [] (.bool true) (by kernel_rfl) W (Below.refl _ _) (Nat.le_refl _)
theorem awk02 {W : World} (h : GW W) : Calls Tryz.prog 130 #[] W fun e w'=>e = .returned (.bool true) ∧ Below W.heap.size W w':=
 ol_ok h 130 [] (.bool true) (by kernel_rfl) W (Below.refl _ _) (Nat.le_refl _)
theorem awk03 {W : World} (h : GW W) : Calls Tryz.prog 66 #[] W fun e w'=>e = .returned (.bool true) ∧ Below W.heap.size W w':=
 ol_ok h 66 [] (.bool true) (by kernel_rfl) W (Below.refl _ _) (Nat.le_refl _)
theorem awk04 {W : World} (h : GW W) : Calls Tryz.prog 259 #[] W fun e w'=>e = .returned (.bool true) ∧ Below W.heap.size W w':=
 ol_ok h 259 [] (.bool true) (by kernel_rfl) W (Below.refl _ _) (Nat.le_refl _)
theorem awk05 {W : World} (h : GW W) : Calls Tryz.prog 205 #[] W fun e w'=>e = .returned (.bool true) ∧ Below W.heap.size W w':=
 ol_ok h 205 [] (.bool true) (by kernel_rfl) W (Below.refl _ _) (Nat.le_refl _)
theorem awk06 {W : World} (h : GW W) : Calls Tryz.prog 206 #[] W fun e w'=>e = .returned (.bool true) ∧ Below W.heap.size W w':=
 ol_ok h 206 [] (.bool true) (by kernel_rfl) W (Below.refl _ _) (Nat.le_refl _)
theorem awk07 {W : World} (h : GW W) : Calls Tryz.prog 207 #[] W fun e w'=>e = .returned (.bool true) ∧ Below W.heap.size W w':=
 ol_ok h 207 [] (.bool true) (by kernel_rfl) W (Below.refl _ _) (Nat.le_refl _)
theorem awk08 {W : World} (h : GW W) : Calls Tryz.prog 208 #[] W fun e w'=>e = .returned (.bool true) ∧ Below W.heap.size W w':=
 ol_ok h 208 [] (.bool true) (by kernel_rfl) W (Below.refl _ _) (Nat.le_refl _)
theorem awk09 {W : World} (h : GW W) : Calls Tryz.prog 134 #[] W fun e w'=>e = .returned (.bool true) ∧ Below W.heap.size W w':=
 ol_ok h 134 [] (.bool true) (by kernel_rfl) W (Below.refl _ _) (Nat.le_refl _)
theorem awk10 {W : World} (h : GW W) : Calls Tryz.prog 67 #[] W fun e w'=>e = .returned (.bool true) ∧ Below W.heap.size W w':=
 ol_ok h 67 [] (.bool true) (by kernel_rfl) W (Below.refl _ _) (Nat.le_refl _)
theorem awk12 {W : World} (h : GW W) : Calls Tryz.prog 68 #[] W fun e w'=>e = .returned (.bool true) ∧ Below W.heap.size W w':=
 ol_ok h 68 [] (.bool true) (by kernel_rfl) W (Below.refl _ _) (Nat.le_refl _)
theorem awk22 {W : World} (h : GW W) : Calls Tryz.prog 139 #[] W fun e w'=>e = .returned (.bool true) ∧ Below W.heap.size W w':=
 ol_ok h 139 [] (.bool true) (by kernel_rfl) W (Below.refl _ _) (Nat.le_refl _)
theorem awk23 {W : World} (h : GW W) : Calls Tryz.prog 69 #[] W fun e w'=>e = .returned (.bool true) ∧ Below W.heap.size W w':=
 ol_ok h 69 [] (.bool true) (by kernel_rfl) W (Below.refl _ _) (Nat.le_refl _)
theorem awk24 {W : World} (h : GW W) : Calls Tryz.prog 70 #[] W fun e w'=>e = .returned (.bool true) ∧ Below W.heap.size W w':=
 ol_ok h 70 [] (.bool true) (by kernel_rfl) W (Below.refl _ _) (Nat.le_refl _)
theorem awk25 {W : World} (h : GW W) : Calls Tryz.prog 71 #[] W fun e w'=>e = .returned (.bool true) ∧ Below W.heap.size W w':=
 ol_ok h 71 [] (.bool true) (by kernel_rfl) W (Below.refl _ _) (Nat.le_refl _)
theorem awk26 {W : World} (h : GW W) : Calls Tryz.prog 72 #[] W fun e w'=>e = .returned (.bool true) ∧ Below W.heap.size W w':=
 ol_ok h 72 [] (.bool true) (by kernel_rfl) W (Below.refl _ _) (Nat.le_refl _)
theorem awk27 {W : World} (h : GW W) : Calls Tryz.prog 26 #[] W fun e w'=>e = .returned (.bool true) ∧ Below W.heap.size W w':=
 ol_ok h 26 [] (.bool true) (by kernel_rfl) W (Below.refl _ _) (Nat.le_refl _)
end Go.Proofs.YtohbeinhlhgfiaaGreatDoor
