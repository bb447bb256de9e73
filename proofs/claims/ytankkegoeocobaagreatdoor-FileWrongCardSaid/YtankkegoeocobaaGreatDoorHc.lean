/- Walk: does a file begin with a tag, by the reference (layer 15). -/
import Derived.Test.YtankkegoeocobaaGreatDoorMWi
namespace Go.Proofs.YtankkegoeocobaaGreatDoor
open Go.RowKit
set_option linter.unusedVariables false
set_option linter.unusedSimpArgs false

theorem pre3 (s : ByteArray) (a b c : UInt8) (r : List UInt8) (h : bl s = a :: b :: c :: r) : Lib.hasPrefix s.data.toList [73, 68, 51] = (a == 73 && (b == 68 && c == 51)) := by
  have h' : s.data.toList = a :: b :: c :: r := h
  rw [h']
  have e : ∀ x y : UInt8, (x == y) = (y == x) := fun x y => by rw [Bool.eq_iff_iff, beq_iff_eq, beq_iff_eq]; exact eq_comm
  simp [Lib.hasPrefix, List.isPrefixOf, e]
theorem pre_short (s : ByteArray) (h : s.size < 3) : Lib.hasPrefix s.data.toList [73, 68, 51] = false := by
  have hl : s.data.toList.length < 3 := by simpa using h
  match s.data.toList, hl with
  | [], _ => rfl
  | [a], _ => simp [Lib.hasPrefix, List.isPrefixOf]
  | [a, b], _ => simp [Lib.hasPrefix, List.isPrefixOf]
theorem ne_int {a : UInt8} {n : Nat} (h : (a == UInt8.ofNat n) = false) (hn : n < 256) : ((a.toNat : Int) == (n : Int)) = false ∧ ¬ (a.toNat : Int) = (n : Int) := by
  have : ¬ a.toNat = n := fun e => by
    have : a = UInt8.ofNat n := UInt8.toNat_inj.1 (by rw [UInt8.toNat_ofNat']; omega)
    rw [this] at h; simp at h
  have h2 : ¬ (a.toNat : Int) = (n : Int) := by omega
  exact ⟨by rw [beq_eq_false_iff_ne]; exact h2, h2⟩
set_option maxHeartbeats 4000000 in
theorem begins15_any (s : ByteArray) (w : World) : Calls Tryz.prog 15 #[.string s] w fun e w' => e = .returned (.bool (Lib.hasPrefix s.data.toList [73, 68, 51])) ∧ w = w' := by
  by_cases h3 : s.size < 3
  · rw [pre_short s h3]
    have g : ¬ (s.size : Int) > 2 := by omega
    go_enter Tryz.func15, Tryz.ntmps15
    go_wp2_with fail
    go_ret
    exact ⟨rfl, rfl⟩
  · have hl : 3 ≤ (bl s).length := by rw [bl_length]; omega
    obtain ⟨a, b, c, r, hb⟩ : ∃ a b c r, bl s = a :: b :: c :: r := by
      match bl s, hl with
      | a :: b :: c :: r, _ => exact ⟨a, b, c, r, rfl⟩
    rw [pre3 s a b c r hb]
    have X0 : ∀ h, s[0]'h = a := atB_of s 0 a (by rw [hb]; rfl)
    have X1 : ∀ h, s[1]'h = b := atB_of s 1 b (by rw [hb]; rfl)
    have X2 : ∀ h, s[2]'h = c := atB_of s 2 c (by rw [hb]; rfl)
    have g : (s.size : Int) > 2 := by omega
    have h2 : 2 < s.size := by omega
    clear hb hl
    cases ha : (a == 73) with
    | false =>
      obtain ⟨n1, n2⟩ := ne_int (n := 73) ha (by decide)
      clear ha
      go_enter Tryz.func15, Tryz.ntmps15
      go_wp2_with fail
      go_ret
      exact ⟨ret_b (by first | rfl | exact n1), rfl⟩
    | true =>
      obtain rfl := eq_of_beq ha
      cases hbb : (b == 68) with
      | false =>
        obtain ⟨n1, n2⟩ := ne_int (n := 68) hbb (by decide)
        clear hbb
        go_enter Tryz.func15, Tryz.ntmps15
        go_wp2_with fail
        go_ret
        exact ⟨ret_b (by first | rfl | exact n1), rfl⟩
      | true =>
        obtain rfl := eq_of_beq hbb
        have hcc : ((c.toNat : Int) == 51) = (c == 51) := by
          rw [Bool.eq_iff_iff, beq_iff_eq, beq_iff_eq]
          constructor
          · intro h; exact UInt8.toNat_inj.1 (by show c.toNat = 51; omega)
          · rintro rfl; rfl
        go_enter Tryz.func15, Tryz.ntmps15
        go_wp2_with fail
        go_ret
        exact ⟨ret_b (by first | rfl | exact hcc | simp [hcc]), rfl⟩
end Go.Proofs.YtankkegoeocobaaGreatDoor
