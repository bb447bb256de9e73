/- Walks: octet.width, octet.Big. -/
import Derived.Test.YthboonolnnjdeaaRows
import Derived.Test.YthboonolnnjdeaaBits
import Derived.Test.YthboonolnnjdeaaMem
import Derived.WalkSpells
import Derived.WalkLawsBesides
namespace Go.Proofs.Ythboonolnnjdeaa
open Go.RowKit
set_option linter.unusedVariables false

theorem infoU8 : (Try.prog.info? 5).map (fun i => (i.zero, i.size, i.bytes)) = some (some (.int .u8 0), 1, 1) := by kernel_rfl

/-- a size in bytes, brought to 0 to 8. -/
def widthOf (s : Int) : Nat := (min (max s 0) 8).toNat
theorem widthOf_le (s : Int) : widthOf s ≤ 8 := by unfold widthOf; omega
set_option maxHeartbeats 400000 in
theorem width_any (s : Int) (w : World) :
    Calls Try.prog 25 #[.int .i64 s] w fun e w' => e = .returned (.int .i64 (widthOf s)) ∧ w = w' := by
  go_enter Try.func25, Try.ntmps25
  go_wp2
  all_goals go_ret
  all_goals (refine ⟨ret_i ?_, rfl⟩; unfold widthOf; (try split at *) <;> omega)

/-- a number in so many bytes, the highest first. -/
def bigL (n : Int) : Nat → List UInt8
  | 0 => []
  | k + 1 => bigL (n / 256) k ++ [UInt8.ofNat (n % 256).toNat]
theorem bigL_length (n : Int) (k : Nat) : (bigL n k).length = k := by
  induction k generalizing n with
  | zero => rfl
  | succ k ih => simp [bigL, ih]

theorem set_rep (k : Nat) (b : UInt8) (s : List UInt8) : (List.replicate (k + 1) (0 : UInt8) ++ s).set k b = List.replicate k 0 ++ b :: s := by
  rw [List.replicate_succ', List.append_assoc, List.set_append_right _ _ (by simp)]
  simp

theorem byte_wrap (q : Int) (h : 0 ≤ q) : ((UInt8.ofNat (q % 256).toNat).toNat : Int) = q % 256 := by
  rw [UInt8.toNat_ofNat']
  omega

set_option maxHeartbeats 1000000 in
theorem big_any (n size : Int) (w : World) (h0 : 0 ≤ n) (h1 : n < 18446744073709551616) :
    Calls Try.prog 22 #[.int .u64 n, .int .i64 size] w fun e w' => e = .returned (.string ⟨(bigL n (widthOf size)).toArray⟩) ∧ Below w.heap.size w w' := by
  obtain ⟨i0, hi, hz0, hz1, hz2⟩ := info_parts infoU8
  have hw8 := widthOf_le size
  have c1 := fun w => width_any size w
  generalize widthOf size = m at *
  have C1 := Lib.hid c1
  clear c1
  obtain ⟨B, hB⟩ : ∃ B, B = w.heap.size := ⟨_, rfl⟩
  go_enter Try.func22, Try.ntmps22
  go_wp2_with (first
    | (go_at_call 25; refine (C1.out _).mono ?_; rintro e w' ⟨rfl, rfl⟩)
    | (refine wpList_make_full _ rfl _ _ 30 rfl w.heap.size 5 i0 (.int .u8 0) 1 Try.underlying30 hi hz0 hz1 .i64 .i64 (m : Int) (m : Int) m rfl rfl rfl rfl (by rw [hz2]; omega) (by unfold maxLen; omega) (Nat.le_refl _) ?_; intro W hown hgrow))
  rw [show (madeCells (Value.int IntKind.u8 0).cells (m * 1)).toList = bcells (List.replicate m 0) from by rw [show (Value.int IntKind.u8 0).cells = #[Value.int IntKind.u8 0] from rfl, toList_madeCells_one]; simp [bcells]] at hown
  have hbel : Below w.heap.size w W := (Below.refl _ _).grown hgrow (Nat.le_refl _) (by intro k hk; cases hk)
  clear hgrow
  rw [← hB] at hown hbel ⊢
  have HBs := Lib.hid hB
  clear hB
  go_loopw [0, 6] (fun q i wr => ∃ (k : Nat) (x : Int) (s : List UInt8), k ≤ m ∧ s.length = m - k ∧ 0 ≤ x ∧ x ≤ n ∧ q = .int .u64 x ∧ i = .int .i64 ((k : Int) - 1) ∧ bigL n m = bigL x k ++ s ∧
      wr.ownsRow B 5 1 (.slice (some ⟨B, 0, none⟩) m m) m (bcells (List.replicate k 0 ++ s)) ∧ Below B w wr) (fun _ i _ => (intOf i + 1).toNat)
  case atStart => exact ⟨m, n, [], Nat.le_refl _, by simp, h0, Int.le_refl _, rfl, rfl, by simp, by simpa using hown, hbel⟩
  case round =>
    obtain ⟨k, x, s, hk, hsl, hx0, hx1, rfl, rfl, hbig, hown, hbel⟩ := hrel
    cases k with
    | zero =>
      have hcv := conv_own (P := Try.prog) 30 9 Try.underlying30 Try.underlying5 Try.underlying9 hown
      have HB := Lib.hid hbig
      clear hbig
      go_wp2
      go_ret
      exact ⟨ret_s (by rw [HB.out]; rfl), by rw [← HBs.out]; exact hbel⟩
    | succ j =>
      have ej : (((j + 1 : Nat) : Int) - 1) = (j : Int) := by omega
      rw [ej]
      have hc : wr.cell? ⟨B, j, none⟩ = some (.int .u8 0) := by
        rw [hown.cellAt j (by omega)]; simp [bcells, List.getElem?_append]
      have hf := hown.frozenAt j
      have hst := hown.stored j (.int .u8 ((UInt8.ofNat (x % 256).toNat).toNat : Int))
      rw [bcells_set, set_rep, byte_wrap x hx0] at hst
      have HS := Lib.hid hst
      have HB := Lib.hid hbig
      have HL := Lib.hid hsl
      clear hbig hst ej hown hsl
      go_wp2
      go_roundw
      case rel => exact ⟨j, x / 256, UInt8.ofNat (x % 256).toNat :: s, by omega, by have := HL.out; simp; omega, by omega, by omega, rfl, rfl, by rw [HB.out, bigL]; simp, HS.out.1, hbel.setCell (Nat.le_refl _) _⟩
      case measure => simp [intOf]
end Go.Proofs.Ythboonolnnjdeaa
