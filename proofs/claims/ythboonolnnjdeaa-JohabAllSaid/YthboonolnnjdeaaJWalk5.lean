import Derived.Test.YthboonolnnjdeaaJWalk4
import Derived.Deep.Light
namespace Go.Proofs.Ythboonolnnjdeaa
open Go.RowKit
set_option linter.unusedVariables false
/-- the medial as the reference gives it. -/
def rm (c : Int) : Int := if medB c then med c else -2
theorem rmed_eq : ∀ c : Fin 32, rmed c.val = rm (c.val : Int) := by decide
theorem rmed_rm (c : Int) (h0 : 0 ≤ c) (h1 : c < 32) : rmed c.toNat = rm c := by
  have := rmed_eq ⟨c.toNat, by omega⟩
  simp only at this
  rw [this, show ((c.toNat : Nat) : Int) = c from by omega]
theorem rfin_eq (c : Int) (h0 : 0 ≤ c) (h1 : c < 32) : rfin c = if finB c then fin c else -2 := by
  unfold rfin finB fin
  split
  · rw [if_neg (by simp; omega)]
  · split <;> rw [if_pos (by simp; omega)] <;> split <;> omega
theorem ralone_ini : ∀ i : Fin 19, ralone (i.val : Int) = cons (65 + (i.val : Int)) := by decide +kernel
theorem ralone_fin : ∀ i : Fin 28, i.val = 0 ∨ ralone (100 + (i.val : Int)) = cons (97 + (i.val : Int)) := by decide +kernel
theorem ralone_i (i : Int) (h0 : 0 ≤ i) (h1 : i ≤ 18) : ralone i = cons (65 + i) := by
  have := ralone_ini ⟨i.toNat, by omega⟩
  simp only at this
  rwa [show ((i.toNat : Nat) : Int) = i from by omega] at this
theorem ralone_f (i : Int) (h0 : 1 ≤ i) (h1 : i ≤ 27) : ralone (100 + i) = cons (97 + i) := by
  rcases ralone_fin ⟨i.toNat, by omega⟩ with h | h
  · simp only at h; omega
  · simp only at h
    rwa [show ((i.toNat : Nat) : Int) = i from by omega] at h
/-- the reference's sign, of its parts. -/
def rsgn (n i m f : Int) : Int :=
  if n < 32768 then 0 else if i < -1 ∨ i > 18 ∨ m = -2 ∨ f = -2 then 0
  else if i ≥ 0 ∧ m ≥ 0 then 44032 + (i * 21 + m) * 28 + f
  else if i < 0 ∧ m ≥ 0 ∧ f = 0 then 12623 + m
  else if i ≥ 0 ∧ m < 0 ∧ f = 0 then ralone i
  else if i < 0 ∧ m < 0 ∧ f > 0 then ralone (100 + f)
  else 0
theorem rsgn_eq (n : Int) (h0 : 0 ≤ n) (h1 : n < 65536) : rsgn n (n / 1024 % 32 - 2) (rm (n / 32 % 32)) (rfin (n % 32)) = signJ n := by
  rw [rfin_eq _ (by omega) (by omega), sgn_eq]
  have ha0 : 0 ≤ n / 1024 % 32 := by omega
  have ha1 : n / 1024 % 32 ≤ 31 := by omega
  have hc1 := fin_bd (n % 32)
  have hb1 := med_bd (n / 32 % 32)
  unfold rsgn sgn rm
  generalize n / 1024 % 32 = a at *
  generalize med (n / 32 % 32) = m at *
  generalize fin (n % 32) = f at *
  generalize medB (n / 32 % 32) = bm at *
  generalize finB (n % 32) = bf at *
  by_cases hn : n < 32768
  · rw [if_pos hn, if_pos (Or.inl hn)]
  rw [if_neg hn]
  cases bm
  · rw [if_pos (by simp), if_pos (by simp)]
  cases bf
  · rw [if_pos (by simp), if_pos (by simp)]
  simp only [if_true]
  by_cases hi : 1 ≤ a ∧ a ≤ 20
  · have e1 : iniB a = true := by unfold iniB; simpa using hi
    have e2 : ini a = a - 2 := by unfold ini; rw [if_pos hi]
    rw [e1, e2]
    simp only [Bool.true_eq_false, or_false]
    rw [if_neg (show ¬ n < 32768 from hn)]
    unfold syl
    repeat' split
    all_goals first
      | rfl
      | (exfalso; omega)
      | exact ralone_i _ (by omega) (by omega)
      | exact ralone_f _ (by omega) (by omega)
      | omega
  · have e1 : iniB a = false := by unfold iniB; simpa using hi
    rw [e1, if_pos (by omega), if_pos (by simp)]

set_option maxHeartbeats 2000000 in
theorem refSign_any (n : Int) (w : World) (h0 : 0 ≤ n) (h1 : n < 65536) :
    Calls Try.prog 8 #[.int .i64 n] w fun e w' => e = .returned (.int .i32 (signJ n)) ∧ Below w.heap.size w w' := by
  rw [← rsgn_eq n h0 h1]
  have c1 := fun w => refMedial_any (n / 32 % 32) w (by omega) (by omega)
  rw [rmed_rm _ (by omega) (by omega)] at c1
  have c2 := fun w => refFinal_any (n % 32) w (by omega) (by omega)
  have hm : -2 ≤ rm (n / 32 % 32) ∧ rm (n / 32 % 32) ≤ 20 := by have := med_bd (n / 32 % 32); unfold rm; split <;> omega
  have hf : -2 ≤ rfin (n % 32) ∧ rfin (n % 32) ≤ 27 := by unfold rfin; repeat' split <;> omega
  generalize rm (n / 32 % 32) = m at *
  generalize rfin (n % 32) = f at *
  obtain ⟨hm0, hm1⟩ := hm
  obtain ⟨hf0, hf1⟩ := hf
  have C1 := Lib.hid c1
  have C2 := Lib.hid c2
  clear c1 c2
  go_enter Try.func8, Try.ntmps8
  go_wp2_with (first
    | (go_at_call 18; refine (C1.out _).mono ?_; rintro e w1 ⟨rfl, hb1⟩)
    | (go_at_call 19; refine (C2.out _).mono ?_; rintro e w' ⟨rfl, rfl⟩)
    | (go_at_call 20; refine (refAlone_any _ _).mono ?_; rintro e w2 ⟨rfl, hb2⟩))
  all_goals go_ret
  all_goals (refine ⟨ret_i ?_, ?_⟩)
  all_goals (try (first | exact hb1 | exact hb1.trans (hb2.mono (by have := hb1.size; omega)) | exact Below.refl _ _))
  all_goals (clear C1 C2; go_light; unfold rsgn; (try simp only [beq_iff_eq, beq_eq_false_iff_ne, ne_eq] at *); repeat' split)
  all_goals first
    | rfl
    | (exfalso; omega)
    | omega
end Go.Proofs.Ythboonolnnjdeaa
