/- RH: a checked evaluator for calls, and what it shows (part). -/
import Derived.Test.YtjoechkdmdinoaaGreatDoorGw
import Derived.Test.YtjoechkdmdinoaaGreatDoorR3
set_option linter.all false
set_option linter.unusedSectionVars false
set_option linter.unusedVariables false
set_option linter.unusedSimpArgs false
namespace Go.Proofs.YtjoechkdmdinoaaGreatDoor
open Go Go.Rf Go.RowKit
set_option linter.unusedVariables false
theorem k0_ok : KAll SQ k0 := ⟨⟨⟨⟨trivial, ⟨⟨trivial, ⟨⟨trivial, ⟨trivial, ⟨⟨⟨⟨⟨⟨⟨⟨sq_of (by decide) (by kernel_rfl), trivial⟩, trivial⟩, trivial⟩, ⟨trivial, ⟨⟨sq_of (by decide) (by kernel_rfl), trivial⟩, trivial⟩⟩⟩, ⟨⟨⟨⟨sq_of (by decide) (by kernel_rfl), trivial⟩, trivial⟩, trivial⟩, ⟨⟨⟨sq_of (by decide) (by kernel_rfl), trivial⟩, trivial⟩, ⟨trivial, ⟨sq_of (by decide) (by kernel_rfl), trivial⟩⟩⟩⟩⟩, ⟨⟨⟨trivial, ⟨⟨sq_of (by decide) (by kernel_rfl), sq_of (by decide) (by kernel_rfl), trivial⟩, trivial⟩⟩, trivial⟩, ⟨⟨trivial, ⟨trivial, ⟨sq_of (by decide) (by kernel_rfl), trivial⟩⟩⟩, ⟨⟨trivial, ⟨sq_of (by decide) (by kernel_rfl), trivial⟩⟩, trivial⟩⟩⟩⟩, ⟨trivial, ⟨⟨⟨⟨⟨sq_of (by decide) (by kernel_rfl), trivial⟩, ⟨sq_of (by decide) (by kernel_rfl), sq_of (by decide) (by kernel_rfl), trivial⟩⟩, trivial⟩, ⟨⟨trivial, ⟨sq_of (by decide) (by kernel_rfl), trivial⟩⟩, trivial⟩⟩, trivial⟩⟩⟩, trivial⟩⟩⟩, trivial⟩⟩, trivial⟩⟩, ⟨⟨trivial, ⟨trivial, ⟨trivial, ⟨⟨⟨⟨⟨⟨⟨trivial, ⟨⟨trivial, ⟨cd_of (by decide) (by kernel_rfl), trivial⟩⟩, ⟨⟨cd_of (by decide) (by kernel_rfl), trivial⟩, trivial⟩⟩⟩, trivial⟩, trivial⟩, ⟨⟨⟨trivial, ⟨⟨trivial, ⟨cd_of (by decide) (by kernel_rfl), trivial⟩⟩, trivial⟩⟩, ⟨trivial, ⟨trivial, ⟨trivial, ⟨cd_of (by decide) (by kernel_rfl), trivial⟩⟩⟩⟩⟩, ⟨⟨⟨⟨trivial, ⟨cd_of (by decide) (by kernel_rfl), trivial⟩⟩, trivial⟩, trivial⟩, ⟨⟨⟨⟨cd_of (by decide) (by kernel_rfl), trivial⟩, trivial⟩, trivial⟩, ⟨⟨⟨cd_of (by decide) (by kernel_rfl), trivial⟩, trivial⟩, trivial⟩⟩⟩⟩⟩, trivial⟩, trivial⟩, trivial⟩⟩⟩⟩, ⟨⟨trivial, ⟨trivial, ⟨trivial, ⟨⟨⟨⟨⟨⟨⟨⟨⟨sq06, trivial⟩, trivial⟩, trivial⟩, trivial⟩, trivial⟩, trivial⟩, trivial⟩, trivial⟩, trivial⟩⟩⟩⟩, ⟨trivial, ⟨⟨trivial, ⟨⟨⟨⟨⟨⟨trivial, ⟨⟨trivial, ⟨sq_of' (by decide) (by kernel_rfl), trivial⟩⟩, trivial⟩⟩, trivial⟩, ⟨trivial, ⟨trivial, ⟨⟨trivial, ⟨sq_of' (by decide) (by kernel_rfl), trivial⟩⟩, trivial⟩⟩⟩⟩, ⟨⟨trivial, ⟨⟨⟨trivial, ⟨sq_of' (by decide) (by kernel_rfl), trivial⟩⟩, trivial⟩, trivial⟩⟩, trivial⟩⟩, trivial⟩, trivial⟩⟩, trivial⟩⟩⟩⟩⟩, ⟨⟨trivial, ⟨⟨⟨trivial, ⟨⟨⟨⟨⟨⟨⟨⟨⟨⟨sq10, trivial⟩, trivial⟩, trivial⟩, trivial⟩, trivial⟩, trivial⟩, trivial⟩, trivial⟩, trivial⟩, trivial⟩⟩, trivial⟩, trivial⟩⟩, ⟨trivial, ⟨⟨trivial, ⟨trivial, ⟨trivial, ⟨⟨⟨⟨⟨⟨⟨⟨⟨sq08, trivial⟩, trivial⟩, trivial⟩, trivial⟩, trivial⟩, trivial⟩, trivial⟩, trivial⟩, trivial⟩⟩⟩⟩, trivial⟩⟩⟩⟩, ⟨⟨⟨⟨⟨⟨⟨trivial, ⟨⟨⟨⟨⟨⟨⟨⟨⟨sq02, trivial⟩, trivial⟩, trivial⟩, trivial⟩, trivial⟩, trivial⟩, trivial⟩, trivial⟩, trivial⟩⟩, trivial⟩, trivial⟩, trivial⟩, trivial⟩, ⟨⟨⟨⟨⟨trivial, ⟨⟨⟨⟨⟨⟨⟨⟨⟨sq09, trivial⟩, trivial⟩, trivial⟩, trivial⟩, trivial⟩, trivial⟩, trivial⟩, trivial⟩, trivial⟩⟩, trivial⟩, trivial⟩, trivial⟩, ⟨⟨trivial, ⟨trivial, ⟨trivial, ⟨⟨⟨⟨⟨⟨⟨⟨⟨sq07, trivial⟩, trivial⟩, trivial⟩, trivial⟩, trivial⟩, trivial⟩, trivial⟩, trivial⟩, trivial⟩⟩⟩⟩, trivial⟩⟩⟩, ⟨⟨trivial, ⟨⟨trivial, ⟨trivial, ⟨trivial, ⟨⟨⟨⟨⟨⟨⟨⟨⟨sq05, trivial⟩, trivial⟩, trivial⟩, trivial⟩, trivial⟩, trivial⟩, trivial⟩, trivial⟩, trivial⟩⟩⟩⟩, trivial⟩⟩, ⟨trivial, ⟨⟨⟨trivial, ⟨⟨trivial, ⟨⟨⟨⟨⟨⟨⟨⟨sq04, trivial⟩, trivial⟩, trivial⟩, trivial⟩, trivial⟩, trivial⟩, trivial⟩, trivial⟩⟩, trivial⟩⟩, trivial⟩, trivial⟩⟩⟩⟩⟩
theorem o0_ok {W : World} (h : GW W) : OOk Tryz.prog W W.heap.size O0 := fun f vs v hk w hb hs => by
  simp only [O0, Oracle.add] at hk
  split at hk
  · rename_i u hu
    cases hk
    exact lookT_all k0_ok hu w (h.tw.bel hb)
  · cases hk
end Go.Proofs.YtjoechkdmdinoaaGreatDoor
namespace Go.Proofs.YtjoechkdmdinoaaGreatDoor
open Go Go.Rf Go.RowKit
set_option linter.unusedVariables false
theorem s0_ok {W : World} {O : Oracle} (h : O.sym = fun _ _ => none := by rfl) (h' : O.row = fun _ _ => none := by rfl) : SOk Tryz.prog W W.heap.size O := ⟨fun f args r hk => (by rw [h] at hk; cases hk), fun f args r hk => (by rw [h'] at hk; cases hk)⟩
theorem ol_ok {W : World} (h : GW W) : OOk Tryz.prog W W.heap.size O9 := (layer mixed k9_ok h.gok (layer mixed k8_ok h.gok (layer mixed k7_ok h.gok (layer mixed k6_ok h.gok (layer mixed k5_ok h.gok (layer mixed k4_ok h.gok (layer mixed k3_ok h.gok (layer mixed k2_ok h.gok (layer mixed k1_ok h.gok (o0_ok h) s0_ok) s0_ok) s0_ok) s0_ok) s0_ok) s0_ok) s0_ok) s0_ok) s0_ok)
theorem awk01 {W : World} (h : GW W) : Calls Tryz.prog 136 #[] W fun e w' => e = .returned (.bool true) ∧ Below W.heap.size W w' :=
  ol_ok h 136 [] (.bool true) (by kernel_rfl) W (Below.refl _ _) (Nat.le_refl _)
theorem awk02 {W : World} (h : GW W) : Calls Tryz.prog 129 #[] W fun e w' => e = .returned (.bool true) ∧ Below W.heap.size W w' :=
  ol_ok h 129 [] (.bool true) (by kernel_rfl) W (Below.refl _ _) (Nat.le_refl _)
theorem awk03 {W : World} (h : GW W) : Calls Tryz.prog 73 #[] W fun e w' => e = .returned (.bool true) ∧ Below W.heap.size W w' :=
  ol_ok h 73 [] (.bool true) (by kernel_rfl) W (Below.refl _ _) (Nat.le_refl _)
theorem awk04 {W : World} (h : GW W) : Calls Tryz.prog 335 #[] W fun e w' => e = .returned (.bool true) ∧ Below W.heap.size W w' :=
  ol_ok h 335 [] (.bool true) (by kernel_rfl) W (Below.refl _ _) (Nat.le_refl _)
theorem awk05 {W : World} (h : GW W) : Calls Tryz.prog 235 #[] W fun e w' => e = .returned (.bool true) ∧ Below W.heap.size W w' :=
  ol_ok h 235 [] (.bool true) (by kernel_rfl) W (Below.refl _ _) (Nat.le_refl _)
theorem awk06 {W : World} (h : GW W) : Calls Tryz.prog 236 #[] W fun e w' => e = .returned (.bool true) ∧ Below W.heap.size W w' :=
  ol_ok h 236 [] (.bool true) (by kernel_rfl) W (Below.refl _ _) (Nat.le_refl _)
theorem awk07 {W : World} (h : GW W) : Calls Tryz.prog 237 #[] W fun e w' => e = .returned (.bool true) ∧ Below W.heap.size W w' :=
  ol_ok h 237 [] (.bool true) (by kernel_rfl) W (Below.refl _ _) (Nat.le_refl _)
theorem awk08 {W : World} (h : GW W) : Calls Tryz.prog 238 #[] W fun e w' => e = .returned (.bool true) ∧ Below W.heap.size W w' :=
  ol_ok h 238 [] (.bool true) (by kernel_rfl) W (Below.refl _ _) (Nat.le_refl _)
theorem awk09 {W : World} (h : GW W) : Calls Tryz.prog 133 #[] W fun e w' => e = .returned (.bool true) ∧ Below W.heap.size W w' :=
  ol_ok h 133 [] (.bool true) (by kernel_rfl) W (Below.refl _ _) (Nat.le_refl _)
theorem awk10 {W : World} (h : GW W) : Calls Tryz.prog 74 #[] W fun e w' => e = .returned (.bool true) ∧ Below W.heap.size W w' :=
  ol_ok h 74 [] (.bool true) (by kernel_rfl) W (Below.refl _ _) (Nat.le_refl _)
theorem awk11 {W : World} (h : GW W) : Calls Tryz.prog 430 #[] W fun e w' => e = .returned (.bool true) ∧ Below W.heap.size W w' :=
  ol_ok h 430 [] (.bool true) (by kernel_rfl) W (Below.refl _ _) (Nat.le_refl _)
theorem awk12 {W : World} (h : GW W) : Calls Tryz.prog 75 #[] W fun e w' => e = .returned (.bool true) ∧ Below W.heap.size W w' :=
  ol_ok h 75 [] (.bool true) (by kernel_rfl) W (Below.refl _ _) (Nat.le_refl _)
theorem awk13 {W : World} (h : GW W) : Calls Tryz.prog 354 #[] W fun e w' => e = .returned (.bool true) ∧ Below W.heap.size W w' :=
  ol_ok h 354 [] (.bool true) (by kernel_rfl) W (Below.refl _ _) (Nat.le_refl _)
theorem awk14 {W : World} (h : GW W) : Calls Tryz.prog 267 #[] W fun e w' => e = .returned (.bool true) ∧ Below W.heap.size W w' :=
  ol_ok h 267 [] (.bool true) (by kernel_rfl) W (Below.refl _ _) (Nat.le_refl _)
theorem awk15 {W : World} (h : GW W) : Calls Tryz.prog 268 #[] W fun e w' => e = .returned (.bool true) ∧ Below W.heap.size W w' :=
  ol_ok h 268 [] (.bool true) (by kernel_rfl) W (Below.refl _ _) (Nat.le_refl _)
theorem awk16 {W : World} (h : GW W) : Calls Tryz.prog 433 #[] W fun e w' => e = .returned (.bool true) ∧ Below W.heap.size W w' :=
  ol_ok h 433 [] (.bool true) (by kernel_rfl) W (Below.refl _ _) (Nat.le_refl _)
theorem awk17 {W : World} (h : GW W) : Calls Tryz.prog 356 #[] W fun e w' => e = .returned (.bool true) ∧ Below W.heap.size W w' :=
  ol_ok h 356 [] (.bool true) (by kernel_rfl) W (Below.refl _ _) (Nat.le_refl _)
theorem awk18 {W : World} (h : GW W) : Calls Tryz.prog 357 #[] W fun e w' => e = .returned (.bool true) ∧ Below W.heap.size W w' :=
  ol_ok h 357 [] (.bool true) (by kernel_rfl) W (Below.refl _ _) (Nat.le_refl _)
theorem awk19 {W : World} (h : GW W) : Calls Tryz.prog 358 #[] W fun e w' => e = .returned (.bool true) ∧ Below W.heap.size W w' :=
  ol_ok h 358 [] (.bool true) (by kernel_rfl) W (Below.refl _ _) (Nat.le_refl _)
theorem awk20 {W : World} (h : GW W) : Calls Tryz.prog 269 #[] W fun e w' => e = .returned (.bool true) ∧ Below W.heap.size W w' :=
  ol_ok h 269 [] (.bool true) (by kernel_rfl) W (Below.refl _ _) (Nat.le_refl _)
theorem awk21 {W : World} (h : GW W) : Calls Tryz.prog 270 #[] W fun e w' => e = .returned (.bool true) ∧ Below W.heap.size W w' :=
  ol_ok h 270 [] (.bool true) (by kernel_rfl) W (Below.refl _ _) (Nat.le_refl _)
theorem awk22 {W : World} (h : GW W) : Calls Tryz.prog 138 #[] W fun e w' => e = .returned (.bool true) ∧ Below W.heap.size W w' :=
  ol_ok h 138 [] (.bool true) (by kernel_rfl) W (Below.refl _ _) (Nat.le_refl _)
theorem awk23 {W : World} (h : GW W) : Calls Tryz.prog 76 #[] W fun e w' => e = .returned (.bool true) ∧ Below W.heap.size W w' :=
  ol_ok h 76 [] (.bool true) (by kernel_rfl) W (Below.refl _ _) (Nat.le_refl _)
theorem awk24 {W : World} (h : GW W) : Calls Tryz.prog 77 #[] W fun e w' => e = .returned (.bool true) ∧ Below W.heap.size W w' :=
  ol_ok h 77 [] (.bool true) (by kernel_rfl) W (Below.refl _ _) (Nat.le_refl _)
theorem awk25 {W : World} (h : GW W) : Calls Tryz.prog 78 #[] W fun e w' => e = .returned (.bool true) ∧ Below W.heap.size W w' :=
  ol_ok h 78 [] (.bool true) (by kernel_rfl) W (Below.refl _ _) (Nat.le_refl _)
theorem awk26 {W : World} (h : GW W) : Calls Tryz.prog 79 #[] W fun e w' => e = .returned (.bool true) ∧ Below W.heap.size W w' :=
  ol_ok h 79 [] (.bool true) (by kernel_rfl) W (Below.refl _ _) (Nat.le_refl _)
theorem awk27 {W : World} (h : GW W) : Calls Tryz.prog 36 #[] W fun e w' => e = .returned (.bool true) ∧ Below W.heap.size W w' :=
  ol_ok h 36 [] (.bool true) (by kernel_rfl) W (Below.refl _ _) (Nat.le_refl _)
theorem awk28 {W : World} (h : GW W) : Calls Tryz.prog 178 #[] W fun e w' => e = .returned (.bool true) ∧ Below W.heap.size W w' :=
  ol_ok h 178 [] (.bool true) (by kernel_rfl) W (Below.refl _ _) (Nat.le_refl _)
theorem awk29 {W : World} (h : GW W) : Calls Tryz.prog 101 #[] W fun e w' => e = .returned (.bool true) ∧ Below W.heap.size W w' :=
  ol_ok h 101 [] (.bool true) (by kernel_rfl) W (Below.refl _ _) (Nat.le_refl _)
theorem awk30 {W : World} (h : GW W) : Calls Tryz.prog 54 #[] W fun e w' => e = .returned (.bool true) ∧ Below W.heap.size W w' :=
  ol_ok h 54 [] (.bool true) (by kernel_rfl) W (Below.refl _ _) (Nat.le_refl _)
theorem awk31 {W : World} (h : GW W) : Calls Tryz.prog 65 #[] W fun e w' => e = .returned (.bool true) ∧ Below W.heap.size W w' :=
  ol_ok h 65 [] (.bool true) (by kernel_rfl) W (Below.refl _ _) (Nat.le_refl _)
end Go.Proofs.YtjoechkdmdinoaaGreatDoor
