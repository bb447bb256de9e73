/- Walks: the reference's Code; Awake. -/
import Derived.Test.YthboonolnnjdeaaJLaw
import Derived.Deep.Light
namespace Go.Proofs.Ythboonolnnjdeaa
open Go.RowKit
set_option linter.unusedVariables false

theorem bigL2 (L T : UInt8) : bigL ((L.toNat : Int) * 256 + (T.toNat : Int)) 2 = [L, T] := by
  have h1 := L.toNat_lt
  have h2 := T.toNat_lt
  simp only [bigL, List.nil_append, List.cons_append]
  rw [show (((L.toNat : Int) * 256 + (T.toNat : Int)) / 256 % 256).toNat = L.toNat from by omega, show (((L.toNat : Int) * 256 + (T.toNat : Int)) % 256).toNat = T.toNat from by omega]
  simp
theorem bytes_has (p : Int) (L T : UInt8) (w : World) (h : hasJ p) (hc : codeJ p = (L.toNat : Int) * 256 + (T.toNat : Int)) :
    Calls Try.prog 10 #[.int .i32 p] w fun e w' => e = .returned (.tuple #[.string ⟨#[L, T]⟩, .bool true]) ∧ Below w.heap.size w w' := by
  have hb := bigL2 L T
  rw [← hc] at hb
  have hs : (⟨#[L, T]⟩ : ByteArray) = ⟨(bigL (codeJ p) 2).toArray⟩ := by rw [hb]
  rw [hs]
  rcases h with ⟨h0, h1⟩ | ⟨h0, h1⟩
  · by_cases h2 : p < 12623
    · obtain ⟨k, rfl⟩ : ∃ k : Nat, p = 12593 + k := ⟨(p - 12593).toNat, by omega⟩
      exact bytes_con k w (by omega)
    · exact bytes_vow p w (by omega) h1
  · exact bytes_syl p w h0 h1
theorem bytes_hasnt (p : Int) (w : World) (h0 : -2147483648 ≤ p) (h1 : p ≤ 2147483647) (h : ¬ hasJ p) :
    Calls Try.prog 10 #[.int .i32 p] w fun e w' => e = .returned (.tuple #[.string ⟨#[]⟩, .bool false]) ∧ Below w.heap.size w w' :=
  bytes_none p w h0 h1 (by rw [codeJ_neg p h]; omega)

set_option maxHeartbeats 1000000 in
theorem refCode_none (p : Int) (w : World) (h0 : -2147483648 ≤ p) (h1 : p ≤ 2147483647) (h : ¬ hasJ p) :
    Calls Try.prog 11 #[.int .i32 p] w fun e w' => e = .returned (.int .i64 (-1)) ∧ Below w.heap.size w w' := by
  unfold hasJ at h
  rcases (show p < 12593 ∨ 55203 < p ∨ (12593 ≤ p ∧ p ≤ 55203 ∧ 12643 < p ∧ p < 44032) from by omega) with a | a | ⟨a, b, c, d⟩
  all_goals (
    clear h
    go_enter Try.func11, Try.ntmps11
    go_wp2
    go_ret
    exact ⟨rfl, Below.refl _ _⟩)

/-- the loop ahead of the code that is looked for. -/
def CodeLow (p k : Int) : Prop := k ≤ codeJ p
theorem low_step (p k : Int) (h : hasJ p) (h0 : 0 ≤ k) (hl : CodeLow p k) (hk : ¬ signJ k = p) : CodeLow p (k + 1) := by
  unfold CodeLow at *
  by_cases e : k = codeJ p
  · exact absurd (by rw [e]; exact sign_code p h) hk
  · omega
theorem low_hit (p k : Int) (h : hasJ p) (h0 : 0 ≤ k) (h1 : k < 65536) (hk : signJ k = p) : codeJ p = k := by
  rw [← hk]
  refine code_sign k h0 h1 ?_
  rw [hk]
  unfold hasJ at h; omega
set_option maxHeartbeats 1000000 in
theorem refCode_has (p : Int) (w : World) (h : hasJ p) :
    Calls Try.prog 11 #[.int .i32 p] w fun e w' => e = .returned (.int .i64 (codeJ p)) ∧ Below w.heap.size w w' := by
  have hr := codeJ_range p h
  have hs := low_step p
  have hh := low_hit p
  have st : CodeLow p 32768 := hr.1
  have hlt : ∀ k, CodeLow p k → k < 65536 := fun k hk => by unfold CodeLow at hk; omega
  have H := Lib.hid h
  have HS := Lib.hid hs
  have HH := Lib.hid hh
  have HLT := Lib.hid hlt
  have h' := h
  unfold hasJ at h'
  generalize codeJ p = c at *
  clear h hs hh hlt hr
  rcases h' with ⟨p0, p1⟩ | ⟨p0, p1⟩
  all_goals (
    go_enter Try.func11, Try.ntmps11
    go_wp2
    go_loopw [3] (fun i wr => ∃ k : Int, i = .int .i64 k ∧ 32768 ≤ k ∧ CodeLow p k ∧ Below w.heap.size w wr) (fun i _ => (65536 - intOf i).toNat)
    case atStart => exact ⟨_, rfl, Int.le_refl _, st, Below.refl _ _⟩
    case round =>
      obtain ⟨k, rfl, hk, hlow, hbel⟩ := hrel
      have hk' := HLT.out k hlow
      by_cases e : signJ k = p
      · have := HH.out k H.out (by omega) hk' e
        have eB : (signJ k == p) = true := by rw [e]; simp
        subst this
        go_wp2_with (go_at_call 8; refine (refSign_any _ _ (by omega) (by omega)).mono ?_; rintro e w1 ⟨rfl, hb⟩)
        go_ret
        exact ⟨rfl, hbel.trans (hb.mono hbel.size)⟩
      · have hl' := HS.out k H.out (by omega) hlow e
        have eB : (signJ k == p) = false := by simpa using e
        clear e
        go_wp2_with (go_at_call 8; refine (refSign_any _ _ (by omega) (by omega)).mono ?_; rintro e w1 ⟨rfl, hb⟩)
        go_roundw
        case rel => exact ⟨k + 1, rfl, by omega, hl', hbel.trans (hb.mono hbel.size)⟩
        case measure => simp [intOf]; omega)

set_option maxHeartbeats 1000000 in
theorem awake06_any (w : World) : Calls Try.prog 21 #[] w fun e w' => e = .returned (.bool true) ∧ Below w.heap.size w w' := by
  have c1 : signJ (136 * 256 + 97) = 44032 := by decide +kernel
  have c2 : codeJ 12595 = ((132 : UInt8).toNat : Int) * 256 + ((68 : UInt8).toNat : Int) := by decide +kernel
  have k1 := fun w => sign_any 136 97 w (by omega) (by omega) (by omega) (by omega)
  have k2 := fun w => bytes_has 12595 132 68 w (by unfold hasJ; omega) c2
  unfold signJB at k1
  rw [c1] at k1
  clear c1 c2
  have K1 := Lib.hid k1
  have K2 := Lib.hid k2
  clear k1 k2
  go_enter Try.func21, Try.ntmps21
  go_wp2_with (first
    | (go_at_call 7; refine (K1.out _).mono ?_; rintro e w1 ⟨rfl, rfl⟩)
    | (go_at_call 10; refine (K2.out _).mono ?_; rintro e w1 ⟨rfl, hb⟩))
  go_ret
  exact ⟨rfl, hb⟩
theorem awake06in_any (w : World) : Calls Try.prog 9 #[] w fun e w' => e = .returned (.bool true) ∧ Below w.heap.size w w' := by
  go_enter Try.func9, Try.ntmps9
  go_wp2_with (go_at_call 21; refine (awake06_any _).mono ?_; rintro e w1 ⟨rfl, hb⟩)
  go_ret
  exact ⟨rfl, hb⟩
end Go.Proofs.Ythboonolnnjdeaa
