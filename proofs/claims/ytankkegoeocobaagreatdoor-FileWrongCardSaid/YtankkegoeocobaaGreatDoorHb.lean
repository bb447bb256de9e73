/- FileWrong, run with signs. -/
import Derived.Test.YtankkegoeocobaaGreatDoorR3
namespace Go.Proofs.YtankkegoeocobaaGreatDoor
open Go Go.Rf Go.RowKit
set_option linter.unusedVariables false
set_option linter.unusedSimpArgs false

/-- the signs: the kind, the bytes, the sound, how long these are. -/
noncomputable abbrev sgF (kd : Int) (b s : ByteArray) : Sym where
  v i := match i with | 0 => .int .i64 kd | 1 => .string b | 2 => .string s | 3 => .int .i64 b.size | _ => .int .i64 s.size
  one i := by match i with | 0 | 1 | 2 | 3 | _ + 4 => rfl
  cell i := by match i with | 0 | 1 | 2 | 3 | _ + 4 => rfl
  nb i := by match i with | 0 | 1 | 2 | 3 | _ + 4 => intro b h; cases h
def slF (i : Nat) : Option At := match i with | 1 => some (.sym 3) | 2 => some (.sym 4) | _ => none
abbrev li (n : Nat) : At := .lit (.int .i64 n)
abbrev lb (b : Bool) : At := .lit (.bool b)
abbrev eqs : List BinF := [(.eql, .sym 0, li 0, lb false), (.eql, .sym 0, li 1, lb false), (.eql, .sym 0, li 2, lb false), (.eql, .sym 0, li 3, lb false), (.eql, .sym 0, li 4, lb false), (.eql, .sym 0, li 5, lb false), (.eql, .sym 0, li 6, lb false), (.eql, .sym 0, li 7, lb false)]
/-- strings.HasPrefix and the reference's Begins at the sound. -/
def cF (hp : Bool) (f : FuncId) (args : List V1) : Option V2 := match Nat.beq f 78 with
  | true => (match sameL1 args [.a (.sym 2), .a (.lit (.string ⟨#[73, 68, 51]⟩))] with | true => some (.o (.a (lb hp))) | false => none)
  | false => match Nat.beq f 15 with
    | true => (match sameL1 args [.a (.sym 2)] with | true => some (.o (.a (lb hp))) | false => none)
    | false => none
noncomputable def runF (bs : List BinF) (hp : Bool) : Option Value := (evCall Tryz.prog { xt with fact := factB bs, slen := slF } gk { O9 with sym := cF hp } 60 3 [.a (.sym 0), .a (.sym 1), .a (.sym 2)] { heap := [], next := 0 }).bind (·.1.val?)
theorem run_dark1 (hp : Bool) : runF [(.gtr, .sym 3, li 300, lb true)] hp = some (.bool true) := by kernel_rfl
theorem run_dark2 (hp : Bool) : runF [(.gtr, .sym 3, li 300, lb false), (.gtr, .sym 4, li 300, lb true)] hp = some (.bool true) := by kernel_rfl
theorem run_low (hp : Bool) : runF ((.gtr, .sym 3, li 300, lb false) :: (.gtr, .sym 4, li 300, lb false) :: (.lss, .sym 0, li 0, lb true) :: eqs) hp = some (.bool true) := by kernel_rfl
theorem run_high (hp : Bool) : runF ((.gtr, .sym 3, li 300, lb false) :: (.gtr, .sym 4, li 300, lb false) :: (.lss, .sym 0, li 0, lb false) :: (.gtr, .sym 0, li 7, lb true) :: eqs) hp = some (.bool true) := by kernel_rfl
theorem run_tag : runF [(.gtr, .sym 3, li 300, lb false), (.gtr, .sym 4, li 300, lb false), (.lss, .sym 0, li 0, lb false), (.gtr, .sym 0, li 7, lb false)] true = some (.bool true) := by kernel_rfl
theorem run_none : runF [(.gtr, .sym 3, li 300, lb false), (.gtr, .sym 4, li 300, lb false), (.lss, .sym 0, li 0, lb false), (.gtr, .sym 0, li 7, lb false), (.eql, .sym 2, .sym 2, lb true)] false = some (.bool true) := by kernel_rfl
end Go.Proofs.YtankkegoeocobaaGreatDoor
