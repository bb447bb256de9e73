import Derived.Test.YthboonolnnjdeaaJWalk3
import Derived.Deep.Light
namespace Go.Proofs.Ythboonolnnjdeaa
open Go.RowKit
def rfin (c : Int) : Int := if c = 0 ∨ c = 18 ∨ c > 29 then -2 else if c < 18 then c - 1 else c - 2
set_option maxHeartbeats 400000 in
theorem refFinal_any (c : Int) (w : World) (h0 : 0 ≤ c) (h1 : c < 32) :
    Calls Try.prog 19 #[.int .i64 c] w fun e w' => e = .returned (.int .i64 (rfin c)) ∧ w = w' := by
  go_enter Try.func19, Try.ntmps19
  go_wp2
  all_goals go_ret
  all_goals (refine ⟨ret_i ?_, rfl⟩; simp only [rfin, beq_iff_eq, beq_eq_false_iff_ne, ne_eq] at *; omega)

def sgn (n i m f : Int) (bi bm bf : Bool) : Int :=
  if n < 32768 ∨ bi = false ∨ bm = false ∨ bf = false then 0
  else if i ≠ -1 ∧ m ≠ -1 then syl i m f
  else if i = -1 ∧ m ≠ -1 ∧ f = 0 then 12623 + m
  else if i ≠ -1 ∧ m = -1 ∧ f = 0 then cons (65 + i)
  else if i = -1 ∧ m = -1 ∧ f ≠ 0 then cons (97 + f)
  else 0
def sgnB (n i m f : Int) (bi bm bf : Bool) : Bool :=
  if n < 32768 ∨ bi = false ∨ bm = false ∨ bf = false then false
  else if i ≠ -1 ∧ m ≠ -1 then sylB i m f
  else if i = -1 ∧ m ≠ -1 ∧ f = 0 then true
  else if i ≠ -1 ∧ m = -1 ∧ f = 0 then consB (65 + i)
  else if i = -1 ∧ m = -1 ∧ f ≠ 0 then consB (97 + f)
  else false
theorem cons_zero (p : Int) : consB p = !decide (cons p = 0) := by
  unfold consB cons
  split <;> simp <;> omega
theorem sgnB_eq (n i m f : Int) (bi bm bf : Bool) (hi : -1 ≤ i) (hi' : i ≤ 18) (hm : -1 ≤ m) (hm' : m ≤ 20) (hf : 0 ≤ f) (hf' : f ≤ 27) : sgnB n i m f bi bm bf = !decide (sgn n i m f bi bm bf = 0) := by
  unfold sgnB sgn
  split
  · rfl
  split
  · unfold sylB syl
    split
    · rename_i h
      rw [decide_eq_true h]; simp; omega
    · rename_i h
      rw [decide_eq_false h]; simp
  split
  · simp; omega
  split
  · exact cons_zero _
  split
  · exact cons_zero _
  rfl
theorem sgn_eq (n : Int) : signJ n = sgn n (ini (n / 1024 % 32)) (med (n / 32 % 32)) (fin (n % 32)) (iniB (n / 1024 % 32)) (medB (n / 32 % 32)) (finB (n % 32)) := rfl

set_option maxHeartbeats 4000000 in
theorem sign_any (l t : Int) (w : World) (h0 : 0 ≤ l) (h1 : l ≤ 255) (h2 : 0 ≤ t) (h3 : t ≤ 255) :
    Calls Try.prog 7 #[.int .u8 l, .int .u8 t] w fun e w' => e = .returned (.tuple #[.int .i32 (signJ (l * 256 + t)), .bool (signJB (l * 256 + t))]) ∧ w = w' := by
  have e1 : bits .or .i64 (l * 256) t = l * 256 + t := i64_or8 _ _ (by omega) (by omega) (by omega) (by omega) (by omega)
  obtain ⟨n, hn⟩ : ∃ n, n = l * 256 + t := ⟨_, rfl⟩
  have hn0 : 0 ≤ n := by omega
  have hn1 : n < 65536 := by omega
  have e2 : bits .and .i64 (n / 1024) 31 = n / 1024 % 32 := i64_and31 _ (by omega) (by omega)
  have e3 : bits .and .i64 (n / 32) 31 = n / 32 % 32 := i64_and31 _ (by omega) (by omega)
  have e4 : bits .and .i64 n 31 = n % 32 := i64_and31 _ (by omega) (by omega)
  obtain ⟨hi, hi'⟩ := ini_bd (n / 1024 % 32)
  obtain ⟨hm, hm'⟩ := med_bd (n / 32 % 32)
  obtain ⟨hf, hf'⟩ := fin_bd (n % 32)
  have c1 := fun w => initialOf_any (n / 1024 % 32) w (by omega) (by omega)
  have c2 := fun w => medialOf_any (n / 32 % 32) w (by omega) (by omega)
  have c3 := fun w => finalOf_any (n % 32) w (by omega) (by omega)
  have hs := sgn_eq n
  have hsB : signJB n = sgnB n (ini (n / 1024 % 32)) (med (n / 32 % 32)) (fin (n % 32)) (iniB (n / 1024 % 32)) (medB (n / 32 % 32)) (finB (n % 32)) := by
    rw [sgnB_eq _ _ _ _ _ _ _ hi hi' hm hm' hf hf', ← hs]; rfl
  rw [← hn] at e1 ⊢
  clear hn
  rw [hs, hsB]
  clear hs hsB
  generalize ini (n / 1024 % 32) = i at *
  generalize med (n / 32 % 32) = m at *
  generalize fin (n % 32) = f at *
  generalize iniB (n / 1024 % 32) = bi at *
  generalize medB (n / 32 % 32) = bm at *
  generalize finB (n % 32) = bf at *
  have C1 := Lib.hid c1
  have C2 := Lib.hid c2
  have C3 := Lib.hid c3
  clear c1 c2 c3
  have d1 : sgn n i m f bi bm bf = (if n < 32768 ∨ bi = false ∨ bm = false ∨ bf = false then 0 else if i ≠ -1 ∧ m ≠ -1 then syl i m f
    else if i = -1 ∧ m ≠ -1 ∧ f = 0 then 12623 + m else if i ≠ -1 ∧ m = -1 ∧ f = 0 then cons (65 + i) else if i = -1 ∧ m = -1 ∧ f ≠ 0 then cons (97 + f) else 0) := rfl
  have d2 : sgnB n i m f bi bm bf = (if n < 32768 ∨ bi = false ∨ bm = false ∨ bf = false then false else if i ≠ -1 ∧ m ≠ -1 then sylB i m f
    else if i = -1 ∧ m ≠ -1 ∧ f = 0 then true else if i ≠ -1 ∧ m = -1 ∧ f = 0 then consB (65 + i) else if i = -1 ∧ m = -1 ∧ f ≠ 0 then consB (97 + f) else false) := rfl
  have D1 := Lib.hid d1
  have D2 := Lib.hid d2
  clear d1 d2
  go_enter Try.func7, Try.ntmps7
  go_wp2_with (first
    | (go_at_call 14; refine (C1.out _).mono ?_; rintro e w' ⟨rfl, rfl⟩)
    | (go_at_call 15; refine (C2.out _).mono ?_; rintro e w' ⟨rfl, rfl⟩)
    | (go_at_call 16; refine (C3.out _).mono ?_; rintro e w' ⟨rfl, rfl⟩)
    | (go_at_call 12; refine (syllable_any _ _ _ _).mono ?_; rintro e w' ⟨rfl, rfl⟩)
    | (go_at_call 17; refine (consonant_any _ _).mono ?_; rintro e w' ⟨rfl, rfl⟩))
  all_goals go_ret2
  all_goals (refine ⟨ret_ib ?_ ?_, rfl⟩ <;> first | rw [D1.out] | rw [D2.out])
  all_goals (clear C1 C2 C3 D1 D2; go_light)
  all_goals (clear e1 e2 e3 e4 h0 h1 h2 h3)
  all_goals (first | (have hnn : n < 32768 := by omega) | (have hnn : ¬ n < 32768 := by omega))
  all_goals (cases bi <;> cases bm <;> cases bf)
  all_goals (simp at *)
  all_goals (try (first | rfl | omega | done))
  all_goals (repeat' split)
  all_goals (try (first | rfl | omega | (exfalso; omega)))
  all_goals (try (simp_all; done))
  all_goals (try (exfalso; simp_all; omega))
end Go.Proofs.Ythboonolnnjdeaa
