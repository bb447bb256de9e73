/- Walk: a number's digits, by the reference (layer 30). -/
import Derived.Test.YtankkegoeocobaaGreatDoorMCy
import Derived.Lib.ItoaNum
namespace Go.Proofs.YtankkegoeocobaaGreatDoor
open Go.RowKit
set_option linter.unusedVariables false
set_option linter.unusedSimpArgs false

theorem pow_bound (j n : Nat) (h : 10 ^ (j + 1) ≤ n) (hn : n ≤ 9223372036854775807) : j + 1 ≤ 20 := by
  by_cases hc : j + 1 ≤ 20
  · exact hc
  · exfalso
    have h1 : (10 : Nat) ^ 20 ≤ 10 ^ (j + 1) := Nat.pow_le_pow_right (by decide) (by omega)
    have h2 : (10 : Nat) ^ 20 = 100000000000000000000 := by decide
    omega
theorem bl_eq' {a b : ByteArray} (h : a.data.toList = b.data.toList) : a = b := ByteArray.ext (Array.ext' h)
theorem dec_step (x : Nat) (h : ¬ x < 10) : Lib.decDigits x = Lib.decDigits (x / 10) ++ [UInt8.ofNat (48 + x % 10)] := by rw [Lib.decDigits, dif_neg h]
theorem dec_last (x : Nat) (h : x < 10) : Lib.decDigits x = [UInt8.ofNat (48 + x)] := by rw [Lib.decDigits, dif_pos h]
set_option maxRecDepth 100000 in
set_option maxHeartbeats 4000000 in
theorem rdigits_any (n : Nat) (w : World) (hn : n ≤ 9223372036854775807) : Calls Tryz.prog 24 #[.int .i64 (n : Int)] w fun e w' => e = .returned (.string ⟨(Lib.decDigits n).toArray⟩) ∧ Below w.heap.size w w' := by
  have hcv : ∀ (x : Nat) (W : World), x < 256 → (convert 102 9 (.slice (some ⟨W.heap.size, 0, none⟩) 1 1)).run Tryz.prog (W.alloc (.cells #[.int .u8 (x : Int)] 5)) = .ok (.string ⟨#[UInt8.ofNat x]⟩) (W.alloc (.cells #[.int .u8 (x : Int)] 5)) := by
    intro x W hx
    have h := conv_own (l := [UInt8.ofNat x]) 102 9 Tryz.underlying102 Tryz.underlying5 Tryz.underlying9 (World.ownsRow_lit (size := 1) (base := W.heap.size) W #[.int .u8 ((UInt8.ofNat x).toNat : Int)] 1 (Nat.le_refl _) (by unfold maxLen; omega) rfl)
    rw [show (UInt8.ofNat x).toNat = x by rw [UInt8.toNat_ofNat']; omega] at h
    exact h
  obtain ⟨E, hE⟩ : ∃ E, E = Lib.decDigits n := ⟨_, rfl⟩
  rw [← hE]
  have HNN := Lib.hid hn
  have HCV := Lib.hid hcv
  have HE := Lib.hid hE
  clear hcv hE
  go_enter Tryz.func24, Tryz.ntmps24
  go_wp2_with fail
  go_loopw [0, 3] (fun nv tv wr => ∃ (x j : Nat) (T : ByteArray), nv = .int .i64 (x : Int) ∧ tv = .string T ∧ x * 10 ^ j ≤ n ∧ T.size = j ∧ j ≤ 20 ∧ Hid (Lib.decDigits x ++ bl T = E) ∧ Hid (Below w.heap.size w wr)) (fun nv _ _ => (intOf nv).toNat)
  case atStart => exact ⟨n, 0, ⟨#[]⟩, rfl, rfl, by omega, rfl, by omega, Lib.hid (by rw [HE.out]; simp [bl]), Lib.hid (Below.refl _ _)⟩
  case round =>
    obtain ⟨x, j, T, rfl, rfl, hx, hT, hj, HT, HB⟩ := hrel
    have hm : (x : Int).tmod 10 = ((x % 10 : Nat) : Int) := rfl
    have hd : (x : Int).tdiv 10 = ((x / 10 : Nat) : Int) := rfl
    have hxn : x ≤ n := Nat.le_trans (Nat.le_mul_of_pos_right x (Nat.pow_pos (by decide))) hx
    obtain ⟨r, hr⟩ : ∃ r, r = x % 10 := ⟨_, rfl⟩
    obtain ⟨q, hq⟩ : ∃ q, q = x / 10 := ⟨_, rfl⟩
    have hr10 : r < 10 := by omega
    rw [← hr] at hm
    rw [← hq] at hd
    have h1 : IntKind.i64.wrap (48 + (r : Int)) = 48 + (r : Int) := wi64 _ (by omega) (by omega)
    have h2 : IntKind.u8.wrap (48 + (r : Int)) = 48 + (r : Int) := wraps_u8 _ (by omega) (by omega)
    have h3 : IntKind.i64.wrap (q : Int) = (q : Int) := wi64 _ (by omega) (by omega)
    have hcv := fun W => HCV.out (48 + r) W (by omega)
    rw [show ((48 + r : Nat) : Int) = 48 + (r : Int) by omega] at hcv
    have hbx := bal HB.out (.cells #[.int .u8 (48 + (r : Int))] 5)
    have hTs : T.size ≤ 20 := by omega
    have HX := Lib.hid hx
    have HR := Lib.hid hr
    have HQ := Lib.hid hq
    have HJ := Lib.hid hT
    have HBX := Lib.hid hbx
    have HN := Lib.hid hxn
    clear hx hr hq hT hbx hxn hn
    obtain ⟨bb, hbb⟩ : ∃ bb, bb = UInt8.ofNat (48 + r) := ⟨_, rfl⟩
    rw [← hbb] at hcv
    have HBB := Lib.hid hbb
    clear hbb
    by_cases hz : q = 0
    · subst hz
      have hz0 : ((0 : Nat) : Int) = 0 := rfl
      go_wp2_with fail
      go_ret
      refine ⟨ret_s ?_, HBX.out⟩
      have hx10 : x < 10 := by have := HQ.out; omega
      have e := HT.out
      rw [dec_last x hx10] at e
      rw [← e, HBB.out, HR.out, show x % 10 = x by omega]
      apply bl_eq'
      simp [bl, ByteArray.data_append]
    · have hqz : ((q : Int) == 0) = false := by rw [beq_eq_false_iff_ne]; omega
      have hqn : ¬ (q : Int) = 0 := by omega
      have HZ := Lib.hid hz
      clear hz
      go_wp2_with fail
      refine ⟨⟨q, j + 1, ⟨#[bb]⟩ ++ T, rfl, rfl, ?_, ?_, ?_, Lib.hid ?_, HBX⟩, ?_⟩
      · rw [HQ.out, Nat.pow_succ, Nat.mul_comm (10 ^ j) 10, ← Nat.mul_assoc]
        exact Nat.le_trans (Nat.mul_le_mul_right _ (by omega)) HX.out
      · rw [ByteArray.size_append, HJ.out]; show 1 + j = j + 1; omega
      · refine pow_bound j n ?_ HNN.out
        have h1 := HX.out
        have h2 : 10 ≤ x := by have := HQ.out; have := HZ.out; omega
        exact Nat.le_trans (by rw [Nat.pow_succ, Nat.mul_comm]; exact Nat.mul_le_mul_right _ h2) h1
      · rw [← HT.out, dec_step x (by have := HQ.out; have := HZ.out; omega), ← HQ.out, ← HR.out, ← HBB.out]
        simp [bl, ByteArray.data_append]
      · simp only [intOf]
        have := HQ.out
        have := HZ.out
        omega
end Go.Proofs.YtankkegoeocobaaGreatDoor
