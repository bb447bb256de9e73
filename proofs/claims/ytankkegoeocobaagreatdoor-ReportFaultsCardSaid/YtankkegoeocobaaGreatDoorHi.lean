/- A call with signs, in whatever laid world. -/
import Derived.Test.YtankkegoeocobaaGreatDoorHe
import Derived.Test.YtankkegoeocobaaGreatDoorRH
namespace Go.Proofs.YtankkegoeocobaaGreatDoor
open Go Go.Rf Go.RowKit
set_option linter.unusedVariables false
set_option linter.unusedSimpArgs false
variable [Sym]
def LOk (L : Nat → Option At) : Prop := ∀ i r, L i = some r → ∃ b : ByteArray, Sym.v i = .string b ∧ ∀ ρ, r.den ρ = some (.int .i64 b.size)
theorem sym_lawG {F : FactF} {L : Nat → Option At} {C : FuncId → List V1 → Option V2} {G : Addr → Option Value} {f : FuncId} {args : List V1} {vals : List Value} {v : Value} (hF : FOk Tryz.prog F) (hL : LOk L) {w : World} (hG : GW w) (hGk : GOk w w.heap.size G) (hS : SOk Tryz.prog w w.heap.size { O9 with sym := C })
    (ha : dens1 (fun _ => none) args = some vals) (h : (evCall Tryz.prog { xt with fact := F, slen := L } G { O9 with sym := C } 60 f args { heap := [], next := 0 }).bind (·.1.val?) = some v) :
    Calls Tryz.prog f vals.toArray w fun e w' => e = .returned v ∧ Below w.heap.size w w' := by
  haveI : XOk Tryz.prog { xt with fact := F, slen := L } := xok_with hL hF
  cases hr : evCall Tryz.prog { xt with fact := F, slen := L } G { O9 with sym := C } 60 f args { heap := [], next := 0 } with
  | none => rw [hr] at h; cases h
  | some p =>
    rw [hr] at h
    exact sym_run (O := { O9 with sym := C }) mixed hGk (fun f vs v hk => ol_ok hG f vs v hk) hS hr ha (fun ρ => V2.den_val h)
theorem sym_law {F : FactF} {L : Nat → Option At} {C : FuncId → List V1 → Option V2} {f : FuncId} {args : List V1} {vals : List Value} {v : Value} (hF : FOk Tryz.prog F) (hL : LOk L) {w : World} (hG : GW w) (hS : SOk Tryz.prog w w.heap.size { O9 with sym := C })
    (ha : dens1 (fun _ => none) args = some vals) (h : (evCall Tryz.prog { xt with fact := F, slen := L } gk { O9 with sym := C } 60 f args { heap := [], next := 0 }).bind (·.1.val?) = some v) :
    Calls Tryz.prog f vals.toArray w fun e w' => e = .returned v ∧ Below w.heap.size w w' := sym_lawG hF hL hG hG.gok hS ha h
theorem bok_add {x y r : At} {s t : ByteArray} (hx : ∀ ρ, x.den ρ = some (.string s)) (hy : ∀ ρ, y.den ρ = some (.string t)) (hr : ∀ ρ, r.den ρ = some (.string (s ++ t))) (h : s.size + t.size ≤ 9223372036854775807) : BOk (.add, x, y, r) :=
  ⟨_, _, _, hx, hy, hr, fun _ P w => by
    simp [binOp, Op.stringOp]
    omega, (fun _ h => by cases h), (fun h => by cases h)⟩
end Go.Proofs.YtankkegoeocobaaGreatDoor
