/- What is told of a text's byte at a place; two tables of what is told. -/
import Derived.Test.YtankkegoeocobaaGreatDoorR3
namespace Go.Proofs.YtankkegoeocobaaGreatDoor
open Go Go.Rf Go.RowKit
set_option linter.unusedVariables false
set_option linter.unusedSimpArgs false
abbrev FactF := Op → List V2 → Option V2
def factOr (F G : FactF) : FactF := fun o a => match F o a with | some r => some r | none => G o a
abbrev IdxF := At × Nat × At
def lookI : List IdxF → At → Nat → Option At
  | [], _, _ => none
  | (x, i, r) :: l, u, j => match sameA x u && Nat.beq i j with
    | true => some r
    | false => lookI l u j
def factI (t0 : TypeId) (l : List IdxF) : FactF
  | .index t _ _, [.o (.a x), .o (.a (.lit (.int _ (.ofNat i))))] => match Nat.beq t t0 with
    | true => (match lookI l x i with | some r => some (.o (.a r)) | none => none)
    | false => none
  | _, _ => none
variable [Sym]
def FOk (P : Program) (F : FactF) : Prop := ∀ (o : Op) (args : List V2) (r : V2), F o args = some r → ∃ v, (∀ ρ, r.den ρ = some v) ∧ ∀ (o' : Oper) (ev : Operand → V2) (val : Operand → Value), o'.op = o → o.operands.toList.map ev = args → (∀ x ∈ o.operands, ∃ ρ, (ev x).den ρ = some (val x)) → ∀ w : World, (execOp val o').run P w = .ok (.value v) w
theorem factOr_ok {P : Program} {F G : FactF} (hF : FOk P F) (hG : FOk P G) : FOk P (factOr F G) := by
  intro o args r h
  unfold factOr at h
  split at h
  · rename_i q hq; cases h; exact hF _ _ _ hq
  · exact hG _ _ _ h
def IOk (e : IdxF) : Prop := ∃ b : ByteArray, (∀ ρ, e.1.den ρ = some (.string b)) ∧ ∃ h : e.2.1 < b.size, ∀ ρ, e.2.2.den ρ = some (.int .u8 ((b[e.2.1]'h).toNat : Int))
def IAllOk : List IdxF → Prop
  | [] => True
  | e :: l => IOk e ∧ IAllOk l
theorem lookI_ok : ∀ {l : List IdxF} {u : At} {j : Nat} {r : At}, IAllOk l → lookI l u j = some r → IOk (u, j, r)
  | [], u, j, r, _, h => by cases h
  | (x, i, q) :: l, u, j, r, ha, h => by
    simp only [lookI] at h
    split at h
    · rename_i hb
      simp only [Bool.and_eq_true] at hb
      cases h
      have h1 := sameA_eq hb.1
      have h2 := Nat.eq_of_beq_eq_true hb.2
      subst h1; subst h2
      exact ha.1
    · exact lookI_ok ha.2 h
theorem factI_ok {t0 : TypeId} {l : List IdxF} (ht : Tryz.prog.underlying t0 = some .string) (hl : IAllOk l) : FOk Tryz.prog (factI t0 l) := by
  intro o args r h
  unfold factI at h
  split at h
  · rename_i t xo io x kq i
    split at h
    · rename_i hb
      obtain rfl := Nat.eq_of_beq_eq_true hb
      split at h
      · rename_i q hq
        cases h
        obtain ⟨b, d1, hlt, d2⟩ := lookI_ok hl hq
        refine ⟨_, d2, fun o' ev val ho hargs hv w => ?_⟩
        simp only [Op.operands, List.map_cons, List.map_nil, List.cons.injEq, and_true] at hargs
        obtain ⟨e1, e2⟩ := hargs
        obtain ⟨ρ1, v1⟩ := hv xo (by simp [Op.operands])
        obtain ⟨ρ2, v2⟩ := hv io (by simp [Op.operands])
        rw [e1] at v1
        rw [e2] at v2
        have w1 : val xo = .string b := Option.some.inj (v1.symm.trans (d1 ρ1))
        have w2 : val io = .int kq (i : Int) := (Option.some.inj v2).symm
        obtain ⟨dst, op', ty, pos, after, guard⟩ := o'
        simp only at ho
        subst ho
        have hu : (underlying t).run Tryz.prog w = .ok .string w := by
          simp [underlying, ht]
        have hlt' : i < b.size := hlt
        simp [execOp, Instr.index, hu, w1, w2, asIntOf, hlt']
      · cases h
    · cases h
  · cases h
end Go.Proofs.YtankkegoeocobaaGreatDoor
