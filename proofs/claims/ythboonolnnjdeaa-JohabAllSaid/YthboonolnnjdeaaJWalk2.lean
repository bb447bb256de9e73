/- Walks: strings.IndexByte; johab.consonant, Sign; the reference's Medial, Final, Alone, Sign. -/
import Derived.Test.YthboonolnnjdeaaJWalk1
import Derived.Lib.Bytealg
namespace Go.Proofs.Ythboonolnnjdeaa
open Go.RowKit

set_option maxHeartbeats 400000 in
set_option maxRecDepth 100000 in
theorem slIndexByte_any (s : ByteArray) (c : Int) (w : World) :
    Calls Try.prog 28 #[.string s, .int .u8 c] w fun e w' => e = .returned (.int .i64 (Lib.indexByte s.data.toList c.toNat.toUInt8)) ∧ w = w' := by
  go_enter Try.func28, Try.ntmps28
  go_wp2
  rw [run_callFunc_extern (f := 29) Try.func29 (by kernel_rfl) (by kernel_rfl) (by kernel_rfl) (e := Extern.BytealgIndexByte.indexByte) (by kernel_rfl), Lib.run_indexByteString]
  simp only [Result.andThen]
  rw [Oper.upon_value]
  go_wp2
  go_ret
  exact ⟨rfl, rfl⟩

set_option maxHeartbeats 400000 in
theorem indexByte_any (s : ByteArray) (c : Int) (w : World) :
    Calls Try.prog 24 #[.string s, .int .u8 c] w fun e w' => e = .returned (.int .i64 (Lib.indexByte s.data.toList c.toNat.toUInt8)) ∧ w = w' := by
  go_enter Try.func24, Try.ntmps24
  go_wp2_with (go_at_call 28; refine (slIndexByte_any _ _ _).mono ?_; rintro e w' ⟨rfl, rfl⟩)
  go_ret
  exact ⟨rfl, rfl⟩

theorem indexByte_bd (l : List UInt8) (c : UInt8) : -1 ≤ Lib.indexByte l c ∧ Lib.indexByte l c < l.length := by
  induction l with
  | nil => simp [Lib.indexByte]
  | cons b l ih =>
    simp only [Lib.indexByte, List.length_cons]
    split
    · omega
    · split <;> omega
theorem aloneAt_bd (p : Int) : -1 ≤ aloneAt p ∧ aloneAt p ≤ 29 := by
  have h := indexByte_bd aloneL p.toNat.toUInt8
  rw [show aloneL.length = 30 from rfl] at h
  unfold aloneAt; omega

theorem aloneIndex_any (p k : Int) (hk : Hid (k = aloneAt p)) (w : World) :
    Calls Try.prog 24 #[.string ⟨#[65, 66, 100, 67, 102, 103, 68, 69, 70, 106, 107, 108, 109, 110, 111, 112, 71, 72, 73, 115, 74, 75, 76, 77, 78, 79, 80, 81, 82, 83]⟩, .int .u8 p] w
      fun e w' => e = .returned (.int .i64 k) ∧ w = w' := by
  rw [hk.out]
  exact indexByte_any _ _ _

set_option maxHeartbeats 1000000 in
theorem consonant_any (p : Int) (w : World) :
    Calls Try.prog 17 #[.int .u8 p] w fun e w' => e = .returned (.tuple #[.int .i32 (cons p), .bool (consB p)]) ∧ w = w' := by
  have hb := aloneAt_bd p
  obtain ⟨k, hk⟩ : ∃ k, k = aloneAt p := ⟨_, rfl⟩
  obtain ⟨h0, h1⟩ := hb
  rw [← hk] at h0 h1
  have HK : Hid _ := hk
  have e1 : cons p = if k < 0 then 0 else 12593 + k := by rw [hk]; rfl
  have e2 : consB p = !decide (k < 0) := by rw [hk]; rfl
  rw [e1, e2]
  clear hk e1 e2
  go_enter Try.func17, Try.ntmps17
  go_wp2_with (go_at_call 24; refine (aloneIndex_any _ _ HK _).mono ?_; rintro e w' ⟨rfl, rfl⟩)
  all_goals go_ret2
  all_goals (refine ⟨ret_ib ?_ ?_, rfl⟩ <;> (try simp) <;> omega)
end Go.Proofs.Ythboonolnnjdeaa
