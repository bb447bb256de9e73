/- What is told of conversions of numbers; ReportNames, run with signs. -/
import Derived.Test.YtankkegoeocobaaGreatDoorHi
namespace Go.Proofs.YtankkegoeocobaaGreatDoor
open Go Go.Rf Go.RowKit
set_option linter.unusedVariables false
set_option linter.unusedSimpArgs false
/-- a whole number that bears a sign, as another type of as many bits. -/
def factC (t u : TypeId) (x : At) : FactF
  | .convert a b _, [.o (.a y)] => match Nat.beq a t && Nat.beq b u && sameA x y with
    | true => some (.o (.a x))
    | false => none
  | _, _ => none
section
variable [Sym]
theorem factC_ok {t u : TypeId} {x : At} {z : Int} (ht : Tryz.prog.underlying t = some (.int .i64)) (hu : Tryz.prog.underlying u = some (.int .i64)) (hx : ∀ ρ, x.den ρ = some (.int .i64 z)) (hz : IntKind.i64.wrap z = z) : FOk Tryz.prog (factC t u x) := by
  intro o args r h
  unfold factC at h
  split at h
  · rename_i a b xo y
    split at h
    · rename_i hb
      simp only [Bool.and_eq_true] at hb
      cases h
      obtain rfl := Nat.eq_of_beq_eq_true hb.1.1
      obtain rfl := Nat.eq_of_beq_eq_true hb.1.2
      have hxy := sameA_eq hb.2
      subst hxy
      refine ⟨_, hx, fun o' ev val ho hargs hv w => ?_⟩
      simp only [Op.operands, List.map_cons, List.map_nil, List.cons.injEq, and_true] at hargs
      obtain ⟨ρ1, v1⟩ := hv xo (by simp [Op.operands])
      rw [hargs] at v1
      have w1 : val xo = .int .i64 z := Option.some.inj (v1.symm.trans (hx ρ1))
      obtain ⟨dst, op', ty, pos, after, guard⟩ := o'
      simp only at ho
      subst ho
      have h1 : (underlying a).run Tryz.prog w = .ok (.int .i64) w := by simp [underlying, ht]
      have h2 : (underlying b).run Tryz.prog w = .ok (.int .i64) w := by simp [underlying, hu]
      have : (convert a b (.int .i64 z)).run Tryz.prog w = .ok (.int .i64 z) w := by
        simp only [convert, Sem.run_bind, h1, h2, Result.andThen_ok]
        simp [Conv.intToInt, hz]
      simp [execOp, w1, this]
    · cases h
  · cases h
end

/-- the signs: the name, how long it is, the kind. -/
noncomputable abbrev sgK (k : Int) (s : ByteArray) : Sym where
  v i := match i with | 0 => .string s | 1 => .int .i64 s.size | _ => .int .i64 k
  one i := by match i with | 0 | 1 | _ + 2 => rfl
  cell i := by match i with | 0 | 1 | _ + 2 => rfl
  nb i := by match i with | 0 | 1 | _ + 2 => intro b h; cases h
def slK (i : Nat) : Option At := match i with | 0 => some (.sym 1) | _ => none
def nmK : List (List UInt8) := [[97, 117, 116, 111], [105, 100, 51], [111, 103, 103], [102, 108, 97, 99], [99, 117, 101], [115, 114, 116], [115, 115, 97], [108, 114, 99]]
def eqsF : List (List UInt8) → Nat → Nat → List BinF
  | [], _, _ => []
  | l :: r, j, m => (.eql, .lit (.string ⟨⟨l⟩⟩), .sym 0, .lit (.bool (Nat.beq j m))) :: eqsF r (j + 1) m
def atK (off : Nat) : Option Value := match nmK[off]? with | some l => some (.string ⟨⟨l⟩⟩) | none => none
noncomputable def gkk (a : Addr) : Option Value := match gk a with
  | some v => some v
  | none => match a with
    | ⟨b, off, none⟩ => (match Nat.beq b 0 with | true => atK off | false => none)
    | _ => none
noncomputable def runK (bs : List BinF) (k : At) : Option Value := (evCall Tryz.prog { xt with fact := factOr (factB bs) (factC 3 23 (.sym 2)), slen := slK } gkk { O9 with sym := fun _ _ => none } 60 6 [.a k, .a (.sym 0)] { heap := [], next := 0 }).bind (·.1.val?)
def isT : Option Value → Bool
  | some (.bool b) => b
  | _ => false
theorem runK_dark (k : Nat) : runK [(.gtr, .sym 1, .lit (.int .i64 100), .lit (.bool true))] (.sym 2) = some (.bool true) := by kernel_rfl
theorem runK_in : ((List.range 9).all fun m => (List.range 8).all fun k => isT (runK ((.gtr, .sym 1, .lit (.int .i64 100), .lit (.bool false)) :: eqsF nmK 0 m) (.lit (.int .i64 (.ofNat k))))) = true := by kernel_rfl
theorem runK_lo : ((List.range 9).all fun m => isT (runK ((.gtr, .sym 1, .lit (.int .i64 100), .lit (.bool false)) :: (.lss, .sym 2, .lit (.int .i64 0), .lit (.bool true)) :: eqsF nmK 0 m) (.sym 2))) = true := by kernel_rfl
theorem runK_hi : ((List.range 9).all fun m => isT (runK ((.gtr, .sym 1, .lit (.int .i64 100), .lit (.bool false)) :: (.lss, .sym 2, .lit (.int .i64 0), .lit (.bool false)) :: (.gtr, .sym 2, .lit (.int .i64 7), .lit (.bool true)) :: (.geq, .sym 2, .lit (.int .i64 8), .lit (.bool true)) :: eqsF nmK 0 m) (.sym 2))) = true := by kernel_rfl
end Go.Proofs.YtankkegoeocobaaGreatDoor
