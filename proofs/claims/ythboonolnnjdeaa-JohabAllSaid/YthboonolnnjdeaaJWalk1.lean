/- Walks over the leaves of package johab. -/
import Derived.Test.YthboonolnnjdeaaRows
import Derived.Test.YthboonolnnjdeaaBits
import Derived.Test.YthboonolnnjdeaaJSpec
import Derived.WalkKit
import Derived.WalkSpells
import Derived.WalkLawsBesides
namespace Go.Proofs.Ythboonolnnjdeaa
open Go.RowKit

set_option maxHeartbeats 400000 in
theorem initialOf_any (c : Int) (w : World) (h0 : 0 ≤ c) (h1 : c ≤ 31) :
    Calls Try.prog 14 #[.int .i64 c] w fun e w' => e = .returned (.tuple #[.int .i64 (ini c), .bool (iniB c)]) ∧ w = w' := by
  go_enter Try.func14, Try.ntmps14
  go_wp2
  all_goals go_ret2
  all_goals (refine ⟨ret_ib ?_ ?_, rfl⟩ <;> simp only [ini, iniB, beq_iff_eq, beq_eq_false_iff_ne, ne_eq] at * <;> (try simp) <;> omega)

set_option maxHeartbeats 400000 in
theorem medialOf_any (c : Int) (w : World) (h0 : 0 ≤ c) (h1 : c ≤ 31) :
    Calls Try.prog 15 #[.int .i64 c] w fun e w' => e = .returned (.tuple #[.int .i64 (med c), .bool (medB c)]) ∧ w = w' := by
  go_enter Try.func15, Try.ntmps15
  go_wp2
  all_goals go_ret2
  all_goals (refine ⟨ret_ib ?_ ?_, rfl⟩ <;> simp only [med, medB, beq_iff_eq, beq_eq_false_iff_ne, ne_eq] at * <;> (try simp) <;> omega)

set_option maxHeartbeats 400000 in
theorem finalOf_any (c : Int) (w : World) (h0 : 0 ≤ c) (h1 : c ≤ 31) :
    Calls Try.prog 16 #[.int .i64 c] w fun e w' => e = .returned (.tuple #[.int .i64 (fin c), .bool (finB c)]) ∧ w = w' := by
  go_enter Try.func16, Try.ntmps16
  go_wp2
  all_goals go_ret2
  all_goals (refine ⟨ret_ib ?_ ?_, rfl⟩ <;> simp only [fin, finB] <;> (try simp) <;> omega)

set_option maxHeartbeats 400000 in
theorem medialCode_any (c : Int) (w : World) (h0 : -1 ≤ c) (h1 : c ≤ 31) :
    Calls Try.prog 26 #[.int .i64 c] w fun e w' => e = .returned (.int .i64 (medCode c)) ∧ w = w' := by
  go_enter Try.func26, Try.ntmps26
  go_wp2
  all_goals go_ret
  all_goals (refine ⟨ret_i ?_, rfl⟩; simp only [medCode, beq_iff_eq, beq_eq_false_iff_ne, ne_eq] at *; omega)

set_option maxHeartbeats 400000 in
theorem finalCode_any (c : Int) (w : World) (h0 : -1 ≤ c) (h1 : c ≤ 31) :
    Calls Try.prog 27 #[.int .i64 c] w fun e w' => e = .returned (.int .i64 (finCode c)) ∧ w = w' := by
  go_enter Try.func27, Try.ntmps27
  go_wp2
  all_goals go_ret
  all_goals (refine ⟨ret_i ?_, rfl⟩; simp only [finCode]; omega)

/-- johab.code -/
theorem code_any (i m f : Int) (w : World) (h0 : -1 ≤ i) (h1 : i ≤ 18) (h2 : -1 ≤ m) (h3 : m ≤ 20) (h4 : 0 ≤ f) (h5 : f ≤ 27) :
    Calls Try.prog 23 #[.int .i64 i, .int .i64 m, .int .i64 f] w fun e w' => e = .returned (.int .i64 (32768 + (i + 2) * 1024 + medCode m * 32 + finCode f)) ∧ w = w' := by
  obtain ⟨a0, a1⟩ := medCode_bd m h2 h3
  obtain ⟨b0, b1⟩ := finCode_bd f h4 h5
  go_enter Try.func23, Try.ntmps23
  go_wp2_with (first | (go_at_call 26; refine (medialCode_any _ _ (by omega) (by omega)).mono ?_; rintro e w' ⟨rfl, rfl⟩) | (go_at_call 27; refine (finalCode_any _ _ (by omega) (by omega)).mono ?_; rintro e w' ⟨rfl, rfl⟩))
  go_ret
  refine ⟨ret_i ?_, rfl⟩
  rw [i64_join 15 32768 ((i + 2) * 1024) (by omega) (by omega) (by omega) (by omega) (by omega) (by omega), i64_join 10 (32768 + (i + 2) * 1024) (medCode m * 32) (by omega) (by omega) (by omega) (by omega) (by omega) (by omega), i64_join 5 _ (finCode f) (by omega) (by omega) (by omega) (by omega) (by omega) (by omega)]

set_option maxHeartbeats 400000 in
theorem syllable_any (i m f : Int) (w : World) :
    Calls Try.prog 12 #[.int .i64 i, .int .i64 m, .int .i64 f] w fun e w' => e = .returned (.tuple #[.int .i32 (syl i m f), .bool (sylB i m f)]) ∧ w = w' := by
  go_enter Try.func12, Try.ntmps12
  go_wp2
  all_goals go_ret2
  all_goals (refine ⟨ret_ib ?_ ?_, rfl⟩ <;> simp only [syl, sylB] <;> (try simp) <;> omega)
end Go.Proofs.Ythboonolnnjdeaa
