/- ReportBytes, whatever the bytes: by runs with signs. -/
import Derived.Test.YtjoechkdmdinoaaGreatDoorHV
import Derived.Test.YtjoechkdmdinoaaGreatDoorHX
namespace Go.Proofs.YtjoechkdmdinoaaGreatDoor.reportBytes
open Go Go.Rf Go.RowKit
set_option linter.unusedVariables false
set_option linter.unusedSimpArgs false
/- signs: 0 the bytes, 1 their digits, 2 what is read, 3 in quotes, 4 how many they are -/
def base : List SymF := [(21, [.a (.sym 0)], one1 (.sym 1)), (22, [.a (.sym 1)], .t [.a (.sym 0), .a (lB true)]), (23, [.a (.sym 0)], one1 (.sym 1)), (24, [.a (.sym 0)], one1 (.sym 3)), (25, [.a (.sym 0)], one1 (.sym 3))]
def bs : List BinF := [(.gtr, .sym 4, lI 1000, lB false), (.eql, .sym 1, .sym 1, lB true), (.eql, .sym 0, .sym 0, lB true), (.eql, .sym 3, .sym 3, lB true)]
def told0 : Told := { b := [(.gtr, .sym 4, lI 1000, lB true)], l := [(0, .sym 4)] }
def told1 : Told := { b := bs, l := [(0, .sym 4)], c := (22, [.a (.sym 0)], .t [.a (.sym 2), .a (lB true)]) :: (21, [.a (.sym 2)], one1 (.sym 0)) :: base }
def told2 : Told := { b := bs, l := [(0, .sym 4)], c := (22, [.a (.sym 0)], .t [.a (lS []), .a (lB false)]) :: (26, [.a (.sym 0)], one1 (lB false)) :: base }
theorem run0 : symEv told0 7 [.a (.sym 0)] = some (one1 (lB true)) := by kernel_rfl
theorem run1 : symEv told1 7 [.a (.sym 0)] = some (one1 (lB true)) := by kernel_rfl
theorem run2 : symEv told2 7 [.a (.sym 0)] = some (one1 (lB true)) := by kernel_rfl
theorem walk (b : ByteArray) (w0 : b.size ≤ maxLen) (w : World) (hG : GW w) :
    Calls Tryz.prog 7 #[.string b] w fun e w' => e = .returned (.bool true) ∧ Below w.heap.size w w' := by
  obtain ⟨H, hH⟩ : ∃ H : ByteArray, H = ⟨(hxL (bl b)).toArray⟩ := ⟨_, rfl⟩
  obtain ⟨Q, hQ⟩ : ∃ Q : ByteArray, Q = ⟨(quT (bl b)).toArray⟩ := ⟨_, rfl⟩
  by_cases hs : b.size > 1000
  · letI := sgL [.string b, .string H, .string b, .string Q, .int .i64 b.size] ⟨okS_str _, okS_str _, okS_str _, okS_str _, okS_int _ _, trivial⟩
    exact sym_to (vals := [.string b]) hG (T := told0) ⟨⟨bok_gtr (a := b.size) (c := 1000) (k := .i64) (fun _ => rfl) (fun _ => rfl) (by simp; omega), trivial⟩, trivial, trivial, ⟨⟨b, rfl, fun _ => rfl⟩, trivial⟩, trivial, trivial, trivial⟩ rfl run0 (fun _ => rfl)
  · have hsz : b.size ≤ 1000 := by omega
    have hHl : H.size = 2 * b.size := by rw [hH]; show (hxL (bl b)).length = _; rw [hxL_length, bl_length]
    have kh : ∀ w', Calls Tryz.prog 21 #[.string b] w' fun e w'' => e = .returned (.string H) ∧ Below w'.heap.size w' w'' := fun w' => by rw [hH]; exact phex_any b w' (by omega)
    have kr : ∀ w', Calls Tryz.prog 23 #[.string b] w' fun e w'' => e = .returned (.string H) ∧ Below w'.heap.size w' w'' := fun w' => by rw [hH]; exact rhex_any b w' (by omega)
    have ku : ∀ w', Calls Tryz.prog 22 #[.string H] w' fun e w'' => e = .returned (.tuple #[.string b, .bool true]) ∧ Below w'.heap.size w' w'' := fun w' => by
      have := punhex_any H w' (by omega)
      have e1 : bl H = hxL (bl b) := by rw [hH]
      unfold unV at this
      rw [e1, unhL_hxL] at this
      have e2 : (⟨(bl b).toArray⟩ : ByteArray) = b := by simp [bl]
      simp only [e2] at this
      exact this
    have kq : ∀ w', Calls Tryz.prog 24 #[.string b] w' fun e w'' => e = .returned (.string Q) ∧ Below w'.heap.size w' w'' := fun w' => by rw [hQ]; exact pquote_any b w' (by omega)
    have krq : ∀ w', Calls Tryz.prog 25 #[.string b] w' fun e w'' => e = .returned (.string Q) ∧ Below w'.heap.size w' w'' := fun w' => by rw [hQ]; exact rquote_any b w' (by omega)
    have kub := fun w' => punhex_any b w' (by omega)
    unfold unV at kub
    cases hu : unhL (bl b) with
    | some m =>
      obtain ⟨C, hC⟩ : ∃ C : ByteArray, C = ⟨m.toArray⟩ := ⟨_, rfl⟩
      rw [hu] at kub
      simp only [← hC] at kub
      obtain ⟨h1, h2⟩ := hxL_unhL _ _ _ (Nat.le_refl _) hu
      have hCs : C.size ≤ 1000 := by rw [hC]; show m.length ≤ _; rw [bl_length] at h2; omega
      have kc2 : ∀ w', Calls Tryz.prog 21 #[.string C] w' fun e w'' => e = .returned (.string b) ∧ Below w'.heap.size w' w'' := fun w' => by
        have := phex_any C w' (by omega)
        have e1 : bl C = m := by rw [hC]
        rw [e1, h1] at this
        have e2 : (⟨(bl b).toArray⟩ : ByteArray) = b := by simp [bl]
        rw [e2] at this
        exact this
      letI := sgL [.string b, .string H, .string C, .string Q, .int .i64 b.size] ⟨okS_str _, okS_str _, okS_str _, okS_str _, okS_int _ _, trivial⟩
      exact sym_to (vals := [.string b]) hG (T := told1) ⟨⟨bok_gtr (a := b.size) (c := 1000) (k := .i64) (fun _ => rfl) (fun _ => rfl) (by simp; omega), bok_eqs (s := H) (t := H) (fun _ => rfl) (fun _ => rfl) (by simp), bok_eqs (s := b) (t := b) (fun _ => rfl) (fun _ => rfl) (by simp), bok_eqs (s := Q) (t := Q) (fun _ => rfl) (fun _ => rfl) (by simp), trivial⟩, trivial, trivial, ⟨⟨b, rfl, fun _ => rfl⟩, trivial⟩,
        ⟨⟨[.string b], _, fun _ => rfl, fun _ => rfl, fun w' _ => kub w'⟩, ⟨[.string C], _, fun _ => rfl, fun _ => rfl, fun w' _ => kc2 w'⟩, ⟨[.string b], _, fun _ => rfl, fun _ => rfl, fun w' _ => kh w'⟩, ⟨[.string H], _, fun _ => rfl, fun _ => rfl, fun w' _ => ku w'⟩, ⟨[.string b], _, fun _ => rfl, fun _ => rfl, fun w' _ => kr w'⟩, ⟨[.string b], _, fun _ => rfl, fun _ => rfl, fun w' _ => kq w'⟩, ⟨[.string b], _, fun _ => rfl, fun _ => rfl, fun w' _ => krq w'⟩, trivial⟩, trivial, trivial⟩ rfl run1 (fun _ => rfl)
    | none =>
      rw [hu] at kub
      simp only at kub
      have hx := unhL_none _ _ (Nat.le_refl _) hu
      have khx : ∀ w', Calls Tryz.prog 26 #[.string b] w' fun e w'' => e = .returned (.bool false) ∧ Below w'.heap.size w' w'' := fun w' => by
        have := lhex_any b w' (by omega)
        rw [hx] at this
        exact this
      letI := sgL [.string b, .string H, .string b, .string Q, .int .i64 b.size] ⟨okS_str _, okS_str _, okS_str _, okS_str _, okS_int _ _, trivial⟩
      exact sym_to (vals := [.string b]) hG (T := told2) ⟨⟨bok_gtr (a := b.size) (c := 1000) (k := .i64) (fun _ => rfl) (fun _ => rfl) (by simp; omega), bok_eqs (s := H) (t := H) (fun _ => rfl) (fun _ => rfl) (by simp), bok_eqs (s := b) (t := b) (fun _ => rfl) (fun _ => rfl) (by simp), bok_eqs (s := Q) (t := Q) (fun _ => rfl) (fun _ => rfl) (by simp), trivial⟩, trivial, trivial, ⟨⟨b, rfl, fun _ => rfl⟩, trivial⟩,
        ⟨⟨[.string b], _, fun _ => rfl, fun _ => rfl, fun w' _ => kub w'⟩, ⟨[.string b], _, fun _ => rfl, fun _ => rfl, fun w' _ => khx w'⟩, ⟨[.string b], _, fun _ => rfl, fun _ => rfl, fun w' _ => kh w'⟩, ⟨[.string H], _, fun _ => rfl, fun _ => rfl, fun w' _ => ku w'⟩, ⟨[.string b], _, fun _ => rfl, fun _ => rfl, fun w' _ => kr w'⟩, ⟨[.string b], _, fun _ => rfl, fun _ => rfl, fun w' _ => kq w'⟩, ⟨[.string b], _, fun _ => rfl, fun _ => rfl, fun w' _ => krq w'⟩, trivial⟩, trivial, trivial⟩ rfl run2 (fun _ => rfl)
end Go.Proofs.YtjoechkdmdinoaaGreatDoor.reportBytes
