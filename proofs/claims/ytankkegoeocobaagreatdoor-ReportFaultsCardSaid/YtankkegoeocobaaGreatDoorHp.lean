/- ReportFaults, run with signs. -/
import Derived.Test.YtankkegoeocobaaGreatDoorHi
namespace Go.Proofs.YtankkegoeocobaaGreatDoor
open Go Go.Rf Go.RowKit
set_option linter.unusedVariables false
set_option linter.unusedSimpArgs false
def wdL : List (List UInt8) := [[111, 107], [109, 97, 108, 102, 111, 114, 109, 101, 100], [117, 110, 100, 101, 99, 111, 100, 97, 98, 108, 101], [117, 110, 115, 117, 112, 112, 111, 114, 116, 101, 100], [116, 111, 111, 32, 108, 97, 114, 103, 101], [97, 114, 103, 117, 109, 101, 110, 116], [117, 110, 101, 110, 99, 111, 100, 97, 98, 108, 101], [110, 111, 110, 101], [110, 105, 108]]
def wdO : List UInt8 := [111, 116, 104, 101, 114]
def wdOf (c : Nat) : List UInt8 := match wdL[c]? with | some l => l | none => wdO
/-- the signs: the place, the line, its digits, the code. -/
noncomputable abbrev sgR (at_ co : Int) (S D : ByteArray) : Sym where
  v i := match i with | 0 => .int .i64 at_ | 1 => .string S | 2 => .string D | _ => .int .i64 co
  one i := by match i with | 0 | 1 | 2 | _ + 3 => rfl
  cell i := by match i with | 0 | 1 | 2 | _ + 3 => rfl
  nb i := by match i with | 0 | 1 | 2 | _ + 3 => intro b h; cases h
def cR (c : At) (f : FuncId) (args : List V1) : Option V2 := match Nat.beq f 22 with
  | true => (match sameL1 args [.g [c, .sym 0]] with | true => some (.o (.a (.sym 1))) | false => none)
  | false => match Nat.beq f 24 with
    | true => (match sameL1 args [.a (.sym 0)] with | true => some (.o (.a (.sym 2))) | false => none)
    | false => none
noncomputable def runR (bs : List BinF) (k : FuncId → List V1 → Option V2) (c : At) : Option Value := (evCall Tryz.prog { xt with fact := factB bs, slen := fun _ => none } gk { O9 with sym := k } 60 5 [.a c, .a (.sym 0)] { heap := [], next := 0 }).bind (·.1.val?)
abbrev jI (n : Nat) : At := .lit (.int .i64 n)
abbrev jB (b : Bool) : At := .lit (.bool b)
abbrev jS (l : List UInt8) : At := .lit (.string ⟨⟨l⟩⟩)
abbrev bsR (l : List UInt8) : List BinF := [(.lss, .sym 0, jI 0, jB false), (.add, jS (l ++ [32, 97, 116, 32]), .sym 2, .sym 1), (.eql, .sym 1, .sym 1, jB true)]
abbrev coR : List BinF := [(.neq, .sym 3, jI 0, jB true), (.eql, .sym 3, jI 0, jB false), (.eql, .sym 3, jI 1, jB false), (.eql, .sym 3, jI 2, jB false), (.eql, .sym 3, jI 3, jB false), (.eql, .sym 3, jI 4, jB false), (.eql, .sym 3, jI 5, jB false), (.eql, .sym 3, jI 6, jB false), (.eql, .sym 3, jI 7, jB false), (.eql, .sym 3, jI 8, jB false)]
def isTR : Option Value → Bool
  | some (.bool b) => b
  | _ => false
theorem runR_dark : runR [(.lss, .sym 0, jI 0, jB true)] (fun _ _ => none) (.sym 3) = some (.bool true) := by kernel_rfl
theorem runR_zero : runR [(.lss, .sym 0, jI 0, jB false)] (fun _ _ => none) (jI 0) = some (.bool true) := by kernel_rfl
theorem runR_in : ((List.range 8).all fun c => isTR (runR (bsR (wdOf (c + 1))) (cR (jI (c + 1))) (jI (c + 1)))) = true := by kernel_rfl
theorem runR_out : runR (coR ++ bsR wdO) (cR (.sym 3)) (.sym 3) = some (.bool true) := by kernel_rfl
/-- the words. -/
noncomputable def runWd (bs : List BinF) (c : At) : Option Value := (evCall Tryz.prog { xt with fact := factB bs, slen := fun _ => none } gk { O9 with sym := fun _ _ => none } 60 59 [.a c] { heap := [], next := 0 }).bind (·.1.val?)
def isSt (l : List UInt8) : Option Value → Bool
  | some (.string b) => eqB b.data.toList l
  | _ => false
theorem runWd_in : ((List.range 9).all fun c => isSt (wdOf c) (runWd [] (jI c))) = true := by kernel_rfl
theorem runWd_lo : runWd [(.lss, .sym 3, jI 0, jB true)] (.sym 3) = some (.string ⟨⟨wdO⟩⟩) := by kernel_rfl
theorem runWd_hi : runWd [(.lss, .sym 3, jI 0, jB false), (.gtr, .sym 3, jI 8, jB true)] (.sym 3) = some (.string ⟨⟨wdO⟩⟩) := by kernel_rfl
end Go.Proofs.YtankkegoeocobaaGreatDoor
