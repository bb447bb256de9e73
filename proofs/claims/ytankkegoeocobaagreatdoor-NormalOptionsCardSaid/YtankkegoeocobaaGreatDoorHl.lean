/- NormalOptions, run with signs. -/
import Derived.Test.YtankkegoeocobaaGreatDoorHi
namespace Go.Proofs.YtankkegoeocobaaGreatDoor
open Go Go.Rf Go.RowKit
set_option linter.unusedVariables false
set_option linter.unusedSimpArgs false
/-- the signs: the bytes, how many, kind, fallback, budget, code. -/
noncomputable abbrev sgO (b : ByteArray) (kd fb bu co : Int) : Sym where
  v i := match i with | 0 => .string b | 1 => .int .i64 b.size | 2 => .int .i64 kd | 3 => .int .i64 fb | 4 => .int .i64 bu | _ => .int .i64 co
  one i := by match i with | 0 | 1 | 2 | 3 | 4 | _ + 5 => rfl
  cell i := by match i with | 0 | 1 | 2 | 3 | 4 | _ + 5 => rfl
  nb i := by match i with | 0 | 1 | 2 | 3 | 4 | _ + 5 => intro b h; cases h
def slO (i : Nat) : Option At := match i with | 0 => some (.sym 1) | _ => none
abbrev nI (n : Nat) : At := .lit (.int .i64 n)
abbrev tB (b : Bool) : At := .lit (.bool b)
abbrev kdN : List BinF := [(.geq, .sym 2, nI 0, tB false), (.eql, .sym 2, nI 0, tB false), (.geq, .sym 2, nI 1, tB false)]
abbrev kdB : List BinF := [(.geq, .sym 2, nI 0, tB true), (.leq, .sym 2, nI 7, tB false), (.eql, .sym 2, nI 0, tB false), (.geq, .sym 2, nI 1, tB true)]
abbrev kd0 : List BinF := [(.geq, .sym 2, nI 0, tB true), (.leq, .sym 2, nI 7, tB true), (.eql, .sym 2, nI 0, tB true)]
abbrev kd1 : List BinF := [(.geq, .sym 2, nI 0, tB true), (.leq, .sym 2, nI 7, tB true), (.eql, .sym 2, nI 0, tB false), (.geq, .sym 2, nI 1, tB true)]
abbrev fbN : List BinF := [(.geq, .sym 3, nI 0, tB false)]
abbrev fbB : List BinF := [(.geq, .sym 3, nI 0, tB true), (.leq, .sym 3, nI 6, tB false)]
abbrev fbG : List BinF := [(.geq, .sym 3, nI 0, tB true), (.leq, .sym 3, nI 6, tB true)]
abbrev buN : List BinF := [(.geq, .sym 4, nI 0, tB false)]
abbrev buB : List BinF := [(.geq, .sym 4, nI 0, tB true), (.leq, .sym 4, nI 268435456, tB false)]
abbrev buG : List BinF := [(.geq, .sym 4, nI 0, tB true), (.leq, .sym 4, nI 268435456, tB true)]
abbrev optL : List (List BinF) := [kdN, kdB, kd0 ++ fbN, kd0 ++ fbB, kd0 ++ fbG ++ buN, kd0 ++ fbG ++ buB, kd0 ++ fbG ++ buG, kd1 ++ fbN, kd1 ++ fbB, kd1 ++ fbG ++ buN, kd1 ++ fbG ++ buB, kd1 ++ fbG ++ buG]
abbrev coN : List BinF := [(.neq, .sym 5, nI 0, tB true), (.gtr, .sym 5, nI 0, tB false), (.geq, .sym 5, nI 0, tB false), (.eql, .sym 5, nI 0, tB false)]
abbrev coB : List BinF := [(.neq, .sym 5, nI 0, tB true), (.gtr, .sym 5, nI 0, tB true), (.lss, .sym 5, nI 9, tB false), (.geq, .sym 5, nI 0, tB true), (.eql, .sym 5, nI 0, tB false)]
noncomputable def runO (g : Bool) (bs : List BinF) (c : At) : Option Value := (evCall Tryz.prog { xt with fact := factB bs, slen := slO } gk { O9 with sym := fun _ _ => none } 60 4 [.a (.sym 0), .g [.sym 2, .sym 3, .lit (.bool g), .sym 4], .a c] { heap := [], next := 0 }).bind (·.1.val?)
def isTO : Option Value → Bool
  | some (.bool b) => b
  | _ => false
theorem runO_dark (g : Bool) : runO g [(.gtr, .sym 1, nI 300, tB true)] (.sym 5) = some (.bool true) := by kernel_rfl
theorem runO_in (g : Bool) : (optL.all fun o => (List.range 9).all fun c => isTO (runO g ((.gtr, .sym 1, nI 300, tB false) :: o) (.lit (.int .i64 (.ofNat c))))) = true := by kernel_rfl
theorem runO_lo (g : Bool) : (optL.all fun o => isTO (runO g ((.gtr, .sym 1, nI 300, tB false) :: (coN ++ o)) (.sym 5))) = true := by kernel_rfl
theorem runO_hi (g : Bool) : (optL.all fun o => isTO (runO g ((.gtr, .sym 1, nI 300, tB false) :: (coB ++ o)) (.sym 5))) = true := by kernel_rfl
end Go.Proofs.YtankkegoeocobaaGreatDoor
