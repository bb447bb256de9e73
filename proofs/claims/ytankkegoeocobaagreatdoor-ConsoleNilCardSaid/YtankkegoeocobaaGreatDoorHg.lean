/- ConsoleNil, whatever the line. -/
import Derived.Test.YtankkegoeocobaaGreatDoorHf
import Derived.Test.YtankkegoeocobaaGreatDoorHi
import Derived.Test.YtankkegoeocobaaGreatDoorMMore
namespace Go.Proofs.YtankkegoeocobaaGreatDoor.consoleNil
open Go Go.Rf Go.RowKit
set_option linter.unusedVariables false
set_option linter.unusedSimpArgs false
theorem slN_ok (s : ByteArray) : letI := sgN s; LOk slN := by
  intro i r h
  match i, h with
  | 0, h => cases h; exact ⟨s, rfl, fun _ => rfl⟩
theorem cut_x (l : List UInt8) : Lib.cut (120 :: 32 :: l) [32] = ([120], l, true) := by
  have h : Lib.index (120 :: 32 :: l) [32] = 1 := by
    simp [Lib.index, List.isPrefixOf]
  simp [Lib.cut, h]
theorem cN_ok (s : ByteArray) (hs : s.size ≤ 200) (W : World) (hG : GW W) : letI := sgN s; SOk Tryz.prog W W.heap.size { O9 with sym := cN } := by
  intro f args r hr ρ vals hd
  have hq : cN f args = some r := hr
  clear hr
  unfold cN at hq
  split at hq
  · rename_i hf
    obtain rfl := Nat.eq_of_beq_eq_true hf
    split at hq
    · rename_i ha
      cases hq
      rw [sameL1_eq ha] at hd
      have hd : some [Value.string (⟨#[120, 32]⟩ ++ s), .string ⟨⟨[32]⟩⟩] = some vals := hd
      cases hd
      refine ⟨.tuple #[.string ⟨⟨[120]⟩⟩, .string s, .bool true], rfl, fun w hb _ => ?_⟩
      obtain ⟨m, hm⟩ := (hG.tw.bel hb).ml
      have hl : (⟨#[120, 32]⟩ ++ s : ByteArray).data.toList = 120 :: 32 :: s.data.toList := by simp [ByteArray.data_append]
      have hsz : (⟨#[120, 32]⟩ ++ s : ByteArray).size < 4294967281 := by
        rw [ByteArray.size_append]
        have : (⟨#[120, 32]⟩ : ByteArray).size = 2 := rfl
        omega
      obtain ⟨x, hx⟩ : ∃ x : ByteArray, x = ⟨#[120, 32]⟩ ++ s := ⟨_, rfl⟩
      rw [← hx] at hl hsz ⊢
      have C := Tryz.strings_Cut x ⟨⟨[32]⟩⟩ m w hsz hm
      refine C.mono fun e w' ⟨h1, n, h2⟩ => ⟨?_, by rw [h2]; exact bdn (Below.refl _ _) n⟩
      rw [h1, hl, show (⟨⟨[32]⟩⟩ : ByteArray).data.toList = [32] from rfl, cut_x]
    · cases hq
  · cases hq
theorem walk (s : ByteArray) (w1 : s.size ≤ maxLen) (w : World) (hG : GW w) : Calls Tryz.prog 11 #[.string s] w fun e w' => e = .returned (.bool true) ∧ Below w.heap.size w w' := by
  letI := sgN s
  have g1 : ∀ v, decide ((s.size : Int) > 200) = v → BOk (.gtr, .sym 1, .lit (.int .i64 200), .lit (.bool v)) := fun v h => bok_gtr (a := (s.size : Int)) (c := 200) (k := .i64) (fun _ => rfl) (fun _ => rfl) h
  by_cases hs : s.size ≤ 200
  · have hz : maxLen ≥ 1000 := by decide
    have b1 : BOk (.add, ls [35], .sym 0, .sym 2) := bok_add (s := ⟨#[35]⟩) (t := s) (fun _ => rfl) (fun _ => rfl) (fun _ => rfl) (by show 1 + s.size ≤ _; omega)
    have b2 : BOk (.add, ls [120, 32], .sym 0, .sym 3) := bok_add (s := ⟨#[120, 32]⟩) (t := s) (fun _ => rfl) (fun _ => rfl) (fun _ => rfl) (by show 2 + s.size ≤ _; omega)
    have b3 : BOk (.eql, .sym 2, ls [], .lit (.bool false)) := bok_eqs (s := ⟨#[35]⟩ ++ s) (t := ⟨⟨[]⟩⟩) (fun _ => rfl) (fun _ => rfl) (by simp [ByteArray.data_append])
    have b4 : BOk (.eql, .sym 3, ls [], .lit (.bool false)) := bok_eqs (s := ⟨#[120, 32]⟩ ++ s) (t := ⟨⟨[]⟩⟩) (fun _ => rfl) (fun _ => rfl) (by simp [ByteArray.data_append])
    have i1 : IOk (.sym 2, 0, .lit (.int .u8 35)) := ⟨⟨#[35]⟩ ++ s, fun _ => rfl, by rw [ByteArray.size_append]; show 0 < 1 + s.size; omega, fun _ => by rw [atB_of (⟨#[35]⟩ ++ s) 0 35 (by simp [bl, ByteArray.data_append])]; rfl⟩
    have i2 : IOk (.sym 3, 0, .lit (.int .u8 120)) := ⟨⟨#[120, 32]⟩ ++ s, fun _ => rfl, by rw [ByteArray.size_append]; show 0 < 2 + s.size; omega, fun _ => by rw [atB_of (⟨#[120, 32]⟩ ++ s) 0 120 (by simp [bl, ByteArray.data_append])]; rfl⟩
    exact sym_law (factOr_ok (factB_ok (P := Tryz.prog) (show BAllOk ((.gtr, .sym 1, .lit (.int .i64 200), .lit (.bool false)) :: bsN) from ⟨g1 false (by rw [decide_eq_false_iff_not]; omega), b1, b2, b3, b4, trivial⟩)) (factI_ok Tryz.underlying9 (show IAllOk isN from ⟨i1, i2, trivial⟩))) (slN_ok s) hG (cN_ok s hs w hG) (vals := [.string s]) rfl runN_light
  · have b0 := g1 true (by rw [decide_eq_true_iff]; omega)
    exact sym_law (factOr_ok (factB_ok (P := Tryz.prog) (l := [_]) ⟨b0, trivial⟩) (factI_ok Tryz.underlying9 (l := []) trivial)) (slN_ok s) hG (fun f args r hk => by cases hk) (vals := [.string s]) rfl runN_dark
end Go.Proofs.YtankkegoeocobaaGreatDoor.consoleNil
