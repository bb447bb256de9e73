/- Plain laws: the sign of two bytes and the bytes of a sign are each other's inverse. -/
import Derived.Test.YthboonolnnjdeaaJWalk6
namespace Go.Proofs.Ythboonolnnjdeaa
set_option linter.unusedVariables false

theorem medCode_med (b : Int) (h : medB b = true) : medCode (med b) = b := by
  unfold medB at h; simp at h; unfold medCode med; repeat' split
  all_goals omega
theorem finCode_fin (c : Int) (h : finB c = true) : finCode (fin c) = c := by
  unfold finB at h; simp at h; unfold finCode fin; repeat' split
  all_goals omega
theorem med_medCode (m : Int) (h0 : -1 ≤ m) (h1 : m ≤ 20) : med (medCode m) = m ∧ medB (medCode m) = true := by
  unfold medB; simp only [decide_eq_true_eq]; unfold medCode med; repeat' split
  all_goals omega
theorem fin_finCode (f : Int) (h0 : 0 ≤ f) (h1 : f ≤ 27) : fin (finCode f) = f ∧ finB (finCode f) = true := by
  unfold finB; simp only [decide_eq_true_eq]; unfold finCode fin; repeat' split
  all_goals omega
theorem ini_of (a : Int) (h : iniB a = true) : ini a = a - 2 ∧ 1 ≤ a ∧ a ≤ 20 := by
  unfold iniB at h; simp at h; unfold ini; omega
theorem iniB_of (a : Int) (h0 : 1 ≤ a) (h1 : a ≤ 20) : iniB a = true := by unfold iniB; simp; omega

theorem cons_i : ∀ i : Fin 19, 12593 ≤ cons (65 + (i.val : Int)) ∧ cons (65 + (i.val : Int)) < 12623 ∧ letter (cons (65 + (i.val : Int)) - 12593) = 65 + (i.val : Int) := by decide +kernel
theorem cons_f : ∀ i : Fin 28, cons (97 + (i.val : Int)) = 0 ∨ 12593 ≤ cons (97 + (i.val : Int)) ∧ cons (97 + (i.val : Int)) < 12623 ∧ letter (cons (97 + (i.val : Int)) - 12593) = 97 + (i.val : Int) := by decide +kernel
theorem cons_i' (i : Int) (h0 : 0 ≤ i) (h1 : i ≤ 18) : 12593 ≤ cons (65 + i) ∧ cons (65 + i) < 12623 ∧ letter (cons (65 + i) - 12593) = 65 + i := by
  have := cons_i ⟨i.toNat, by omega⟩
  simp only at this
  rwa [show ((i.toNat : Nat) : Int) = i from by omega] at this
theorem cons_f' (i : Int) (h0 : 0 ≤ i) (h1 : i ≤ 27) : cons (97 + i) = 0 ∨ 12593 ≤ cons (97 + i) ∧ cons (97 + i) < 12623 ∧ letter (cons (97 + i) - 12593) = 97 + i := by
  have := cons_f ⟨i.toNat, by omega⟩
  simp only at this
  rwa [show ((i.toNat : Nat) : Int) = i from by omega] at this

/-- the bytes lead back from the sign. -/
theorem code_sign (n : Int) (h0 : 0 ≤ n) (h1 : n < 65536) (h : signJ n ≠ 0) : codeJ (signJ n) = n := by
  rw [sgn_eq] at h ⊢
  have hb0 := med_bd (n / 32 % 32)
  have hc0 := fin_bd (n % 32)
  unfold sgn at h ⊢
  by_cases c1 : n < 32768 ∨ iniB (n / 1024 % 32) = false ∨ medB (n / 32 % 32) = false ∨ finB (n % 32) = false
  · rw [if_pos c1] at h; exact absurd rfl h
  rw [if_neg c1] at h ⊢
  have d0 : ¬ n < 32768 := fun x => c1 (Or.inl x)
  have d1 : iniB (n / 1024 % 32) = true := by cases e : iniB (n / 1024 % 32) <;> simp [e] at c1 ⊢
  have d2 : medB (n / 32 % 32) = true := by cases e : medB (n / 32 % 32) <;> simp [e] at c1 ⊢
  have d3 : finB (n % 32) = true := by cases e : finB (n % 32) <;> simp [e] at c1 ⊢
  obtain ⟨ei, ha1, ha2⟩ := ini_of _ d1
  have em := medCode_med _ d2
  have ef := finCode_fin _ d3
  rw [ei] at h ⊢
  generalize med (n / 32 % 32) = m at *
  generalize fin (n % 32) = f at *
  by_cases c2 : n / 1024 % 32 - 2 ≠ -1 ∧ m ≠ -1
  · rw [if_pos c2] at h ⊢
    have es : syl (n / 1024 % 32 - 2) m f = 44032 + ((n / 1024 % 32 - 2) * 21 + m) * 28 + f := by unfold syl; rw [if_pos (by omega)]
    rw [es]
    unfold codeJ
    rw [if_pos (by omega)]
    rw [show (44032 + ((n / 1024 % 32 - 2) * 21 + m) * 28 + f - 44032) / 28 / 21 = n / 1024 % 32 - 2 from by omega,
      show (44032 + ((n / 1024 % 32 - 2) * 21 + m) * 28 + f - 44032) / 28 % 21 = m from by omega,
      show (44032 + ((n / 1024 % 32 - 2) * 21 + m) * 28 + f - 44032) % 28 = f from by omega, em, ef]
    omega
  rw [if_neg c2] at h ⊢
  by_cases c3 : n / 1024 % 32 - 2 = -1 ∧ m ≠ -1 ∧ f = 0
  · rw [if_pos c3]
    unfold codeJ
    rw [if_neg (by omega), if_pos (by omega), show 12623 + m - 12623 = m from by omega, em]
    rw [c3.2.2] at ef
    rw [ef]
    omega
  rw [if_neg c3] at h ⊢
  by_cases c4 : n / 1024 % 32 - 2 ≠ -1 ∧ m = -1 ∧ f = 0
  · rw [if_pos c4] at h ⊢
    obtain ⟨k0, k1, k2⟩ := cons_i' (n / 1024 % 32 - 2) (by omega) (by omega)
    unfold codeJ
    rw [if_neg (by omega), if_neg (by omega), if_pos (by omega), k2, if_pos (by omega)]
    rw [c4.2.2] at ef
    rw [c4.2.1] at em
    rw [em, ef]
    omega
  rw [if_neg c4] at h ⊢
  by_cases c5 : n / 1024 % 32 - 2 = -1 ∧ m = -1 ∧ f ≠ 0
  · rw [if_pos c5] at h ⊢
    rcases cons_f' f (by omega) (by omega) with k | ⟨k0, k1, k2⟩
    · exact absurd k h
    unfold codeJ
    rw [if_neg (by omega), if_neg (by omega), if_pos (by omega), k2, if_neg (by omega)]
    rw [c5.2.1] at em
    rw [em, show 97 + f - 97 = f from by omega, ef]
    omega
  rw [if_neg c5] at h
  exact absurd rfl h

theorem sign_code_low : ∀ k : Fin 51, signJ (codeJ (12593 + (k.val : Int))) = 12593 + (k.val : Int) := by decide +kernel
/-- the signs that have bytes. -/
def hasJ (p : Int) : Prop := (12593 ≤ p ∧ p < 12644) ∨ (44032 ≤ p ∧ p < 55204)
theorem codeJ_neg (p : Int) (h : ¬ hasJ p) : codeJ p = -1 := by
  unfold hasJ at h
  unfold codeJ
  rw [if_neg (by omega), if_neg (by omega), if_neg (by omega)]
theorem sign_code (p : Int) (h : hasJ p) : signJ (codeJ p) = p := by
  rcases h with ⟨h0, h1⟩ | ⟨h0, h1⟩
  · have := sign_code_low ⟨(p - 12593).toNat, by omega⟩
    simp only at this
    rwa [show 12593 + (((p - 12593).toNat : Nat) : Int) = p from by omega] at this
  · have e : codeJ p = 32768 + ((p - 44032) / 28 / 21 + 2) * 1024 + medCode ((p - 44032) / 28 % 21) * 32 + finCode ((p - 44032) % 28) := by
      unfold codeJ; rw [if_pos ⟨h0, h1⟩]
    have hm := medCode_bd ((p - 44032) / 28 % 21) (by omega) (by omega)
    have hf := finCode_bd ((p - 44032) % 28) (by omega) (by omega)
    obtain ⟨m1, m2⟩ := med_medCode ((p - 44032) / 28 % 21) (by omega) (by omega)
    obtain ⟨f1, f2⟩ := fin_finCode ((p - 44032) % 28) (by omega) (by omega)
    rw [e, sgn_eq]
    have hi0 : 0 ≤ (p - 44032) / 28 / 21 := by omega
    have hi1 : (p - 44032) / 28 / 21 ≤ 18 := by omega
    have ep : p = 44032 + ((p - 44032) / 28 / 21 * 21 + (p - 44032) / 28 % 21) * 28 + (p - 44032) % 28 := by omega
    have hm0 : 0 ≤ (p - 44032) / 28 % 21 ∧ (p - 44032) / 28 % 21 ≤ 20 := by omega
    have hf0 : 0 ≤ (p - 44032) % 28 ∧ (p - 44032) % 28 ≤ 27 := by omega
    clear e h0 h1
    generalize (p - 44032) / 28 / 21 = i at *
    generalize (p - 44032) / 28 % 21 = m at *
    generalize (p - 44032) % 28 = f at *
    generalize medCode m = M at *
    generalize finCode f = F at *
    rw [show (32768 + (i + 2) * 1024 + M * 32 + F) / 1024 % 32 = i + 2 from by omega, show (32768 + (i + 2) * 1024 + M * 32 + F) / 32 % 32 = M from by omega,
      show (32768 + (i + 2) * 1024 + M * 32 + F) % 32 = F from by omega, m1, m2, f1, f2, iniB_of _ (by omega) (by omega), show ini (i + 2) = i from by unfold ini; omega]
    unfold sgn
    rw [if_neg (by simp; omega), if_pos (by omega)]
    unfold syl
    rw [if_pos (by omega)]
    exact ep.symm
theorem codeJ_range (p : Int) (h : hasJ p) : 32768 ≤ codeJ p ∧ codeJ p < 65536 := by
  rcases h with ⟨h0, h1⟩ | ⟨h0, h1⟩
  · unfold codeJ
    rw [if_neg (by omega)]
    have m := medCode_bd (-1) (by omega) (by omega)
    have f := finCode_bd 0 (by omega) (by omega)
    split
    · have m := medCode_bd (p - 12623) (by omega) (by omega); omega
    · rw [if_pos (by omega)]
      have l := letter_bd (p - 12593) (by omega) (by omega)
      split
      · omega
      · have f' := finCode_bd (letter (p - 12593) - 97) (by omega) (by omega); omega
  · unfold codeJ
    rw [if_pos ⟨h0, h1⟩]
    have hm := medCode_bd ((p - 44032) / 28 % 21) (by omega) (by omega)
    have hf := finCode_bd ((p - 44032) % 28) (by omega) (by omega)
    omega
theorem signJ_has (n : Int) (h0 : 0 ≤ n) (h1 : n < 65536) (h : signJ n ≠ 0) : hasJ (signJ n) := by
  by_cases hh : hasJ (signJ n)
  · exact hh
  · have := codeJ_neg _ hh
    rw [code_sign n h0 h1 h] at this
    omega
end Go.Proofs.Ythboonolnnjdeaa
