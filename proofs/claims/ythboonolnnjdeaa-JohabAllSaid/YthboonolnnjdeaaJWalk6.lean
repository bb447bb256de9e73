import Derived.Test.YthboonolnnjdeaaJWalk5
import Derived.Test.YthboonolnnjdeaaOctet1
namespace Go.Proofs.Ythboonolnnjdeaa
open Go.RowKit
set_option linter.unusedVariables false

/-- the letter at a place of the parts that stand alone. -/
def letter (k : Int) : Int := ((aloneL.getD k.toNat 0).toNat : Int)
/-- the code of a sign, as package johab makes it; -1: none. -/
def codeJ (p : Int) : Int :=
  if 44032 ≤ p ∧ p < 55204 then 32768 + ((p - 44032) / 28 / 21 + 2) * 1024 + medCode ((p - 44032) / 28 % 21) * 32 + finCode ((p - 44032) % 28)
  else if 12623 ≤ p ∧ p < 12644 then 32768 + (-1 + 2) * 1024 + medCode (p - 12623) * 32 + finCode 0
  else if 12593 ≤ p ∧ p < 12623 then
    if letter (p - 12593) < 97 then 32768 + (letter (p - 12593) - 65 + 2) * 1024 + medCode (-1) * 32 + finCode 0
    else 32768 + (-1 + 2) * 1024 + medCode (-1) * 32 + finCode (letter (p - 12593) - 97)
  else -1
theorem letter_fin : ∀ k : Fin 30, (65 ≤ letter k.val ∧ letter k.val ≤ 83) ∨ (97 ≤ letter k.val ∧ letter k.val ≤ 115) := by decide +kernel
theorem letter_bd (k : Int) (h0 : 0 ≤ k) (h1 : k < 30) : (65 ≤ letter k ∧ letter k ≤ 83) ∨ (97 ≤ letter k ∧ letter k ≤ 115) := by
  have := letter_fin ⟨k.toNat, by omega⟩
  simp only at this
  rwa [show ((k.toNat : Nat) : Int) = k from by omega] at this

theorem widthOf2 : widthOf 2 = 2 := by decide
theorem bytes_none (p : Int) (w : World) (h0 : -2147483648 ≤ p) (h1 : p ≤ 2147483647) (h : codeJ p < 0) :
    Calls Try.prog 10 #[.int .i32 p] w fun e w' =>
      e = .returned (.tuple #[.string ⟨#[]⟩, .bool false]) ∧ Below w.heap.size w w' := by
  have hp : ¬ (44032 ≤ p ∧ p < 55204) ∧ ¬ (12593 ≤ p ∧ p < 12644) := by
    constructor
    · intro a
      have m := medCode_bd ((p - 44032) / 28 % 21) (by omega) (by omega)
      have f := finCode_bd ((p - 44032) % 28) (by omega) (by omega)
      unfold codeJ at h
      rw [if_pos a] at h
      omega
    · intro a
      unfold codeJ at h
      rw [if_neg (by omega)] at h
      by_cases b : 12623 ≤ p
      · have m := medCode_bd (p - 12623) (by omega) (by omega)
        have f := finCode_bd 0 (by omega) (by omega)
        rw [if_pos (by omega)] at h; omega
      · rw [if_neg (by omega), if_pos (by omega)] at h
        have m := medCode_bd (-1) (by omega) (by omega)
        have f := finCode_bd 0 (by omega) (by omega)
        have l := letter_bd (p - 12593) (by omega) (by omega)
        split at h
        · omega
        · have f' := finCode_bd (letter (p - 12593) - 97) (by omega) (by omega)
          omega
  clear h
  obtain ⟨a1, a2⟩ := hp
  have b1 : 44032 ≤ p → 55204 ≤ p := by omega
  by_cases c1 : 44032 ≤ p
  all_goals by_cases c2 : 12593 ≤ p
  any_goals (exfalso; omega)
  all_goals (first | (have c3 : 55204 ≤ p := by omega) | (have c4 : 12644 ≤ p := by omega) | skip)
  all_goals (clear a1 a2 b1)
  all_goals (
    go_enter Try.func10, Try.ntmps10
    go_wp2_with fail
    go_ret2
    exact ⟨rfl, Below.refl _ _⟩)

set_option maxHeartbeats 1000000 in
theorem bytes_syl (p : Int) (w : World) (h0 : 44032 ≤ p) (h1 : p < 55204) :
    Calls Try.prog 10 #[.int .i32 p] w fun e w' =>
      e = .returned (.tuple #[.string ⟨(bigL (codeJ p) 2).toArray⟩, .bool true]) ∧ Below w.heap.size w w' := by
  have m := medCode_bd ((p - 44032) / 28 % 21) (by omega) (by omega)
  have f := finCode_bd ((p - 44032) % 28) (by omega) (by omega)
  have e : codeJ p = 32768 + ((p - 44032) / 28 / 21 + 2) * 1024 + medCode ((p - 44032) / 28 % 21) * 32 + finCode ((p - 44032) % 28) := by
    unfold codeJ; rw [if_pos ⟨h0, h1⟩]
  rw [e]
  clear e
  go_enter Try.func10, Try.ntmps10
  go_wp2_with (first
    | (go_at_call 23; refine (code_any _ _ _ _ (by omega) (by omega) (by omega) (by omega) (by omega) (by omega)).mono ?_; rintro e w' ⟨rfl, rfl⟩)
    | (go_at_call 22; refine (big_any _ _ _ (by omega) (by omega)).mono ?_; rintro e w1 ⟨rfl, hb⟩))
  rw [widthOf2]
  go_ret2
  exact ⟨rfl, hb⟩

set_option maxHeartbeats 1000000 in
theorem bytes_vow (p : Int) (w : World) (h0 : 12623 ≤ p) (h1 : p < 12644) :
    Calls Try.prog 10 #[.int .i32 p] w fun e w' =>
      e = .returned (.tuple #[.string ⟨(bigL (codeJ p) 2).toArray⟩, .bool true]) ∧ Below w.heap.size w w' := by
  have m := medCode_bd (p - 12623) (by omega) (by omega)
  have f := finCode_bd 0 (by omega) (by omega)
  have e : codeJ p = 32768 + (-1 + 2) * 1024 + medCode (p - 12623) * 32 + finCode 0 := by
    unfold codeJ; rw [if_neg (by omega), if_pos ⟨h0, h1⟩]
  rw [e]
  clear e
  go_enter Try.func10, Try.ntmps10
  go_wp2_with (first
    | (go_at_call 23; refine (code_any _ _ _ _ (by omega) (by omega) (by omega) (by omega) (by omega) (by omega)).mono ?_; rintro e w' ⟨rfl, rfl⟩)
    | (go_at_call 22; refine (big_any _ _ _ (by omega) (by omega)).mono ?_; rintro e w1 ⟨rfl, hb⟩))
  rw [widthOf2]
  go_ret2
  exact ⟨rfl, hb⟩

set_option maxHeartbeats 1000000 in
theorem bytes_con (k : Nat) (w : World) (h1 : k < 30) :
    Calls Try.prog 10 #[.int .i32 (12593 + k)] w fun e w' =>
      e = .returned (.tuple #[.string ⟨(bigL (codeJ (12593 + k)) 2).toArray⟩, .bool true]) ∧ Below w.heap.size w w' := by
  have hx : ∀ (h : k < (⟨#[65, 66, 100, 67, 102, 103, 68, 69, 70, 106, 107, 108, 109, 110, 111, 112, 71, 72, 73, 115, 74, 75, 76, 77, 78, 79, 80, 81, 82, 83]⟩ : ByteArray).size),
      (((⟨#[65, 66, 100, 67, 102, 103, 68, 69, 70, 106, 107, 108, 109, 110, 111, 112, 71, 72, 73, 115, 74, 75, 76, 77, 78, 79, 80, 81, 82, 83]⟩ : ByteArray)[k]'h).toNat : Int) = letter k := by
    intro h
    unfold letter
    rw [Int.toNat_natCast]
    have : aloneL[k]'h1 = aloneL.getD k 0 := by rw [List.getD_eq_getElem?_getD, List.getElem?_eq_getElem (h := h1)]; rfl
    rw [← this]
    rfl
  have m := medCode_bd (-1) (by omega) (by omega)
  have f := finCode_bd 0 (by omega) (by omega)
  have e : codeJ (12593 + k) = if letter k < 97 then 32768 + (letter k - 65 + 2) * 1024 + medCode (-1) * 32 + finCode 0
    else 32768 + (-1 + 2) * 1024 + medCode (-1) * 32 + finCode (letter k - 97) := by
    unfold codeJ; rw [if_neg (by omega), if_neg (by omega), if_pos (by omega), show (12593 + (k : Int) - 12593) = k from by omega]
  have l := letter_bd k (by omega) (by omega)
  rw [e]
  clear e
  generalize letter k = x at *
  rcases l with ⟨l0, l1⟩ | ⟨l0, l1⟩
  · rw [if_pos (by omega)]
    go_enter Try.func10, Try.ntmps10
    go_wp2_with (first
      | (go_at_call 23; refine (code_any _ _ _ _ (by omega) (by omega) (by omega) (by omega) (by omega) (by omega)).mono ?_; rintro e w' ⟨rfl, rfl⟩)
      | (go_at_call 22; refine (big_any _ _ _ (by omega) (by omega)).mono ?_; rintro e w1 ⟨rfl, hb⟩))
    rw [widthOf2]
    go_ret2
    exact ⟨rfl, hb⟩
  · rw [if_neg (by omega)]
    have f := finCode_bd (x - 97) (by omega) (by omega)
    go_enter Try.func10, Try.ntmps10
    go_wp2_with (first
      | (go_at_call 23; refine (code_any _ _ _ _ (by omega) (by omega) (by omega) (by omega) (by omega) (by omega)).mono ?_; rintro e w' ⟨rfl, rfl⟩)
      | (go_at_call 22; refine (big_any _ _ _ (by omega) (by omega)).mono ?_; rintro e w1 ⟨rfl, hb⟩))
    rw [widthOf2]
    go_ret2
    exact ⟨rfl, hb⟩
end Go.Proofs.Ythboonolnnjdeaa
