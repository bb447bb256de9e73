/- The reference's decoding of one byte a sign is the program's (layer 5). -/
import Derived.Test.YtbijjomknbnmfaaGreatDoorRc
import Derived.Test.YtbijjomknbnmfaaGreatDoorCk
namespace Go.Proofs.YtbijjomknbnmfaaGreatDoor
open Go.RowKit
set_option linter.unusedVariables false
set_option linter.unusedSimpArgs false

/-- a byte's sign. -/
def bySg (KG : List Bool × List Int) (b : UInt8) : Int := KG.2.getD b.toNat 0
def goodB (KG : List Bool × List Int) (n : Nat) : Bool := KG.1.getD n false && decide (0 ≤ KG.2.getD n 0 ∧ KG.2.getD n 0 ≤ 1114111 ∧ (KG.2.getD n 0 < 55296 ∨ 57343 < KG.2.getD n 0))
theorem good_all : (List.range 4).all (fun (c : Nat) => (fun KG => (List.range 256).all (goodB KG)) (kgM (setS (c : Int)))) = true := by decide +kernel
theorem good_at (c : Int) (h0 : 0 ≤ c) (h1 : c ≤ 3) (b : UInt8) : goodB (kgM (setS c)) b.toNat = true := by
  obtain ⟨n, rfl⟩ := Int.eq_ofNat_of_zero_le h0
  have h := List.all_eq_true.1 good_all n (by simp; omega)
  exact List.all_eq_true.1 h b.toNat (by have := b.toNat_lt; simp; omega)
theorem tok_good (KG : List Bool × List Int) (hG : ∀ b : UInt8, goodB KG b.toNat = true) (b : UInt8) (l : List UInt8) : tokS (sgS KG) (b :: l) = some (encR (bySg KG b), 1) ∧ Scal (bySg KG b) := by
  have h := hG b
  unfold goodB at h
  rw [Bool.and_eq_true, decide_eq_true_eq] at h
  refine ⟨?_, h.2⟩
  simp only [tokS, sgS, if_pos h.1]
  rfl
theorem run_good (KG : List Bool × List Int) (hG : ∀ b : UInt8, goodB KG b.toNat = true) : ∀ (l : List UInt8) (f n : Nat) (acc : List UInt8), l.length ≤ f → runT (tokS (sgS KG)) f l n acc = (acc ++ encL (l.map (bySg KG)), none) := by
  intro l
  induction l with
  | nil => intro f n acc _; rw [runT_nil]; simp [encL]
  | cons b l ih =>
    intro f n acc hf
    rw [List.length_cons] at hf
    obtain ⟨f, rfl⟩ : ∃ g, f = g + 1 := ⟨f - 1, by omega⟩
    rw [runT_some f _ n acc _ _ (by simp) (tok_good KG hG b l).1]
    simp only [List.drop_succ_cons, List.drop_zero]
    rw [ih f _ _ (by omega), List.map_cons, encL_cons, List.append_assoc]
theorem dec_good (c : Int) (h0 : 0 ≤ c) (h1 : c ≤ 3) (l : List UInt8) : decT (tokC c) l = (encL (l.map (bySg (kgM (setS c)))), none) := by
  rw [tokC_lo c h1]
  unfold decT
  rw [run_good _ (good_at c h0 h1) l _ _ _ (Nat.le_refl _)]
  simp
theorem ref5_all : (List.range 4).all (fun (c : Nat) => (fun KG => (List.range 256).all fun n => decide (refS5 (c : Int) n = KG.2.getD n 0)) (kgM (setS (c : Int)))) = true := by decide +kernel
theorem ref5_eq (c : Int) (h0 : 0 ≤ c) (h1 : c ≤ 3) (b : UInt8) : refS5 c b.toNat = bySg (kgM (setS c)) b := by
  obtain ⟨n, rfl⟩ := Int.eq_ofNat_of_zero_le h0
  have h := List.all_eq_true.1 (List.all_eq_true.1 ref5_all n (by simp; omega)) b.toNat (by have := b.toNat_lt; simp; omega)
  exact of_decide_eq_true h
end Go.Proofs.YtbijjomknbnmfaaGreatDoor
