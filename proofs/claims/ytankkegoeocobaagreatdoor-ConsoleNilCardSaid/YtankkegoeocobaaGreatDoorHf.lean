/- ConsoleNil, run with signs. -/
import Derived.Test.YtankkegoeocobaaGreatDoorHe
namespace Go.Proofs.YtankkegoeocobaaGreatDoor
open Go Go.Rf Go.RowKit
set_option linter.unusedVariables false
set_option linter.unusedSimpArgs false

/-- the signs: the line, how long it is, the line behind a hash, behind a word. -/
noncomputable abbrev sgN (s : ByteArray) : Sym where
  v i := match i with | 0 => .string s | 1 => .int .i64 s.size | 2 => .string (⟨#[35]⟩ ++ s) | _ => .string (⟨#[120, 32]⟩ ++ s)
  one i := by match i with | 0 | 1 | 2 | _ + 3 => rfl
  cell i := by match i with | 0 | 1 | 2 | _ + 3 => rfl
  nb i := by match i with | 0 | 1 | 2 | _ + 3 => intro b h; cases h
def slN (i : Nat) : Option At := match i with | 0 => some (.sym 1) | _ => none
abbrev ls (l : List UInt8) : At := .lit (.string ⟨⟨l⟩⟩)
abbrev bsN : List BinF := [(.add, ls [35], .sym 0, .sym 2), (.add, ls [120, 32], .sym 0, .sym 3), (.eql, .sym 2, ls [], .lit (.bool false)), (.eql, .sym 3, ls [], .lit (.bool false))]
abbrev isN : List IdxF := [(.sym 2, 0, .lit (.int .u8 35)), (.sym 3, 0, .lit (.int .u8 120))]
/-- strings.Cut at the line behind a word. -/
def cN (f : FuncId) (args : List V1) : Option V2 := match Nat.beq f 69 with
  | true => (match sameL1 args [.a (.sym 3), .a (ls [32])] with | true => some (.t [.a (ls [120]), .a (.sym 0), .a (.lit (.bool true))]) | false => none)
  | false => none
noncomputable def runN (bs : List BinF) (ix : List IdxF) (c : FuncId → List V1 → Option V2) : Option Value := (evCall Tryz.prog { xt with fact := factOr (factB bs) (factI 9 ix), slen := slN } gk { O9 with sym := c } 60 11 [.a (.sym 0)] { heap := [], next := 0 }).bind (·.1.val?)
theorem runN_dark : runN [(.gtr, .sym 1, .lit (.int .i64 200), .lit (.bool true))] [] (fun _ _ => none) = some (.bool true) := by kernel_rfl
theorem runN_light : runN ((.gtr, .sym 1, .lit (.int .i64 200), .lit (.bool false)) :: bsN) isN cN = some (.bool true) := by kernel_rfl
end Go.Proofs.YtankkegoeocobaaGreatDoor
