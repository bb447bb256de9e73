/- Walk: the reference's signs of a text (layer 2): Points. -/
import Derived.Test.YtbijjomknbnmfaaGreatDoorRa
namespace Go.Proofs.YtbijjomknbnmfaaGreatDoor
open Go.RowKit
set_option linter.unusedVariables false
set_option linter.unusedSimpArgs false

/-- what Points answers: the signs, or the place at which none stands. -/
def RPtsS (S : Nat × Option Nat) (P : List Int) (w : World) (e : Ending) (w' : World) : Prop := (match S.2 with
  | some k => e = .returned (.tuple #[.slice none 0 0, .int .i64 (k : Nat)])
  | none => ∃ v, e = .returned (.tuple #[v, .int .i64 (-1)]) ∧ OwnI w' w.heap.size v P) ∧ Below w.heap.size w w'
def RPts (l : List UInt8) (w : World) (e : Ending) (w' : World) : Prop := RPtsS (scanL l) (pts l) w e w'
set_option maxRecDepth 100000 in
set_option maxHeartbeats 4000000 in
theorem refPoints_any (s : ByteArray) (w : World) (hs : s.size ≤ 1073741824) : Calls Tryz.prog 51 #[.string s] w (RPts (bl s) w) := by
  have HL : Hid ((bl s).length = s.size) := bl_length s
  have K1 := Lib.hid (fun i w hi => refAt_any s i w hs hi)
  obtain ⟨S, hS⟩ : ∃ S, S = scanL (bl s) := ⟨_, rfl⟩
  obtain ⟨P, hP⟩ : ∃ P, P = pts (bl s) := ⟨_, rfl⟩
  unfold RPts
  rw [← hS, ← hP]
  have HS := Lib.hid hS
  have HP := Lib.hid hP
  clear hS hP
  go_enter Tryz.func51, Tryz.ntmps51
  go_wp2
  go_loopw [4, 5] (fun v iv wr => ∃ (f k : Nat) (acc : List Int), iv = .int .i64 (k : Int) ∧ OwnI wr w.heap.size v acc ∧ k ≤ s.size ∧ acc.length ≤ k ∧ s.size - k ≤ f ∧ Hid (scanF f ((bl s).drop k) k acc.length = S) ∧ Hid (acc ++ pts ((bl s).drop k) = P) ∧ Below w.heap.size w wr) (fun _ iv _ => s.size - (intOf iv).toNat)
  case atStart => exact ⟨s.size, 0, [], rfl, World.ownsRow_nil _ _ _ _, Nat.zero_le _, Nat.le_refl _, by omega, Lib.hid (by have := HS.out; unfold scanL at this; rw [HL.out] at this; rw [List.drop_zero]; exact this.symm), Lib.hid (by rw [List.drop_zero, HP.out]; rfl), Below.refl _ _⟩
  case round =>
    obtain ⟨f, k, acc, rfl, hown, hk, hacc, hf, hQ, hPt, hbel⟩ := hrel
    by_cases hlt : k < s.size
    · have hne : (bl s).drop k ≠ [] := drop_ne (by rw [HL.out]; exact hlt)
      have hat := refAt_dec ((bl s).drop k) hne
      have k1 := fun w => K1.out k w hlt
      rw [hat] at k1
      obtain ⟨f, rfl⟩ : ∃ g, f = g + 1 := ⟨f - 1, by omega⟩
      cases hb : badDec ((bl s).drop k) with
      | true =>
        rw [hb] at k1
        simp only [if_true] at k1
        have e1 := hQ.out
        rw [scanF_bad f _ k _ hne hb] at e1
        have K1' := Lib.hid k1
        have E1 := Lib.hid e1
        clear k1 e1
        clear hat hb hne hQ
        go_wp2_with (go_at_call 88; refine (K1'.out _).mono ?_; rintro e w1 ⟨rfl, hb1⟩)
        refine bodyPost_ret (v := .tuple #[.slice none 0 0, .int .i64 k]) (by simp [results, Tryz.results51, go_sem]) rfl ?_
        refine (show RPtsS _ _ _ _ _ from ⟨?_, bt hbel hb1⟩)
        rw [← E1.out]
      | false =>
        rw [hb] at k1
        simp only [Bool.false_eq_true, if_false] at k1
        have e1 := hQ.out
        rw [scanF_step f _ k _ hne hb, List.drop_drop] at e1
        have e2 := hPt.out
        rw [pts_cons _ hne, List.drop_drop] at e2
        have hdp := dec_pos ((bl s).drop k)
        have hdl := dec_le _ hne
        rw [List.length_drop, HL.out] at hdl
        have hdr := dec_rune ((bl s).drop k)
        rcases hd : dec ((bl s).drop k) with ⟨p, j⟩
        rw [hd] at k1 e1 e2 hdp hdl hdr
        simp only at k1 e1 e2 hdp hdl hdr
        have e3 : (acc ++ [(p : Int)]) ++ pts ((bl s).drop (k + j)) = P := by rw [List.append_assoc]; exact e2
        have e4 : scanF f ((bl s).drop (k + j)) (k + j) (acc ++ [(p : Int)]).length = S := by rw [List.length_append]; exact e1
        have hj : ((j : Int) == 0) = false := by simp; omega
        have K1' := Lib.hid k1
        have E3 := Lib.hid e3
        have E4 := Lib.hid e4
        clear k1 e3 e4
        clear hat hb hne hQ hd e1 e2
        go_wp2_with (first
          | (go_at_call 88; refine (K1'.out _).mono ?_; rintro e w1 ⟨rfl, hb1⟩)
          | (at_builtin; go_loud (refine wpList_push1 rfl _ _ 83 21 rfl Tryz.underlying83 (.int .i32 0) 1 4 infoRune rfl (by decide) w1 w.heap.size u4 acc.length (icells acc) rfl (OwnI.bel hown hb1) #[.int .i32 (p : Int)] rfl (by simp [Value.oneCell']) rfl (by omega) (by omega) (bt hbel hb1).size ?_; intro v' w4 hown4 hb4 hk4)))
        have hown5 : OwnI w4 w.heap.size v' (acc ++ [(p : Int)]) := by
          unfold OwnI
          rw [icells_append, List.length_append]
          exact hown4
        go_roundw
        case rel => exact ⟨f, k + j, acc ++ [(p : Int)], by go_num, hown5, by omega, by rw [List.length_append]; simp; omega, by omega, E4, E3, (bt hbel hb1).trans hb4⟩
        case measure => simp [intOf]; omega
    · have hkk : k = s.size := by omega
      subst hkk
      have e1 := hQ.out
      have e2 := hPt.out
      rw [List.drop_of_length_le (by rw [HL.out]; exact Nat.le_refl _), scanF_nil] at e1
      rw [List.drop_of_length_le (by rw [HL.out]; exact Nat.le_refl _), pts_nil, List.append_nil] at e2
      have E1 := Lib.hid e1
      have E2 := Lib.hid e2
      clear e1 e2
      clear hQ hPt
      go_wp2
      refine bodyPost_ret (v := .tuple #[u4, .int .i64 (-1)]) (by simp [results, Tryz.results51, go_sem]) rfl ?_
      refine (show RPtsS _ _ _ _ _ from ⟨?_, hbel⟩)
      rw [← E1.out]
      exact ⟨_, rfl, by rw [← E2.out]; exact hown⟩
end Go.Proofs.YtbijjomknbnmfaaGreatDoor
