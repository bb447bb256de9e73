/- Walks: names of notes: ahead, Named, small, same (layer 19), the reference's and the law's. -/
import Derived.Test.YtogknbpmgflpgaaGreatDoorNa
import Derived.Test.YtogknbpmgflpgaaGreatDoorCp
namespace Go.Proofs.YtogknbpmgflpgaaGreatDoor
open Go.RowKit
set_option linter.unusedVariables false
set_option linter.unusedSimpArgs false

theorem ahead_split (l : List UInt8) (k : Nat) (x : UInt8) (h : l[k]? = some x) (ha : (l.take k).all letter8 = true) :
    (letter8 x = true → (l.take (k + 1)).all letter8 = true) ∧ (letter8 x = false → aheadM l = k) := by
  obtain ⟨h1, h2⟩ := List.getElem?_eq_some_iff.1 h
  constructor
  · intro hx
    rw [List.take_succ_eq_append_getElem h1, List.all_append, ha, h2]
    simp [hx]
  · intro hx
    have e : l = l.take k ++ x :: l.drop (k + 1) := by
      rw [← h2, ← List.drop_eq_getElem_cons h1, List.take_append_drop]
    unfold aheadM
    rw [e, List.takeWhile_append_of_pos (by simpa [List.all_eq_true] using ha), List.takeWhile_cons, hx]
    simp
    omega
theorem ahead_full (l : List UInt8) (h : l.all letter8 = true) : aheadM l = l.length := by
  unfold aheadM
  induction l with
  | nil => rfl
  | cons a l ih =>
    rw [List.all_cons, Bool.and_eq_true] at h
    rw [List.takeWhile_cons, h.1, if_pos rfl, List.length_cons, List.length_cons, ih h.2]
theorem named_ahead (l : List UInt8) : namedNM l = (!decide (l = []) && decide (aheadM l = l.length)) := by
  unfold namedNM
  congr 1
  · cases l <;> simp
  · rw [Bool.eq_iff_iff, decide_eq_true_iff]
    constructor
    · exact ahead_full l
    · intro h
      have := ahead_all l
      rw [h, List.take_length] at this
      exact this.1
theorem letter8_iff (x : UInt8) : letter8 x = true ↔ 32 ≤ x.toNat ∧ x.toNat ≤ 125 ∧ x.toNat ≠ 61 := by unfold letter8; simp

set_option maxHeartbeats 4000000 in
theorem cahead_any (b : ByteArray) (w : World) (hs : b.size ≤ 1152921504606846976) : Calls Tryz.prog 63 #[.string b] w fun e w' => e = .returned (.int .i64 (aheadM (bl b))) ∧ Below w.heap.size w w' := by
  have HL : Hid ((bl b).length = b.size) := bl_length b
  have X61 : ∀ h, (⟨#[61]⟩ : ByteArray)[0]'h = 61 := fun h => rfl
  go_enter Tryz.func63, Tryz.ntmps63
  go_wp2
  go_loopw [6] (fun i wr => ∃ k : Nat, i = .int .i64 (k : Int) ∧ k ≤ b.size ∧ Hid (((bl b).take k).all letter8 = true) ∧ Below w.heap.size w wr) (fun i _ => b.size - (intOf i).toNat)
  case atStart => exact ⟨0, rfl, Nat.zero_le _, Lib.hid (by simp), Below.refl _ _⟩
  case round =>
    obtain ⟨k, rfl, hk, hR, hbel⟩ := hrel
    by_cases hlt : k < b.size
    · obtain ⟨x, hx⟩ := at_some (bl b) k (by rw [HL.out]; exact hlt)
      have X : ∀ h, b[k]'h = x := atB_of b k x hx
      have hxl := x.toNat_lt
      obtain ⟨h1, h2⟩ := ahead_split (bl b) k x hx hR.out
      have h3 := letter8_iff x
      have H1 := Lib.hid h1
      have H2 := Lib.hid h2
      have H3 := Lib.hid h3
      clear h1 h2 h3
      clear hx
      by_cases c1 : x.toNat < 32
      · have e := H2.out (by cases h : letter8 x; rfl; have := H3.out.1 h; omega)
        have b1 : decide ((x.toNat : Int) < 32) = true := by simp; omega
        have E := Lib.hid e
        clear e
        go_wp2
        go_quiet (fail)
        go_wp2
        go_ret
        exact ⟨ret_i (by rw [E.out]), bdn hbel _⟩
      · have b1 : decide ((x.toNat : Int) < 32) = false := by simp; omega
        by_cases c2 : 125 < x.toNat
        · have e := H2.out (by cases h : letter8 x; rfl; have := H3.out.1 h; omega)
          have b2 : decide ((x.toNat : Int) > 125) = true := by simp; omega
          have b2' : decide (125 < (x.toNat : Int)) = true := b2
          have E := Lib.hid e
          clear e
          go_wp2
          go_quiet (fail)
          go_wp2
          go_ret
          exact ⟨ret_i (by rw [E.out]), bdn hbel _⟩
        · have b2 : decide ((x.toNat : Int) > 125) = false := by simp; omega
          have b2' : decide (125 < (x.toNat : Int)) = false := b2
          by_cases c3 : x.toNat = 61
          · have e := H2.out (by cases h : letter8 x; rfl; have := H3.out.1 h; omega)
            have c3z : (x.toNat : Int) = 61 := by omega
            have b3 : ((x.toNat : Int) == 61) = true := by simpa using c3z
            have E := Lib.hid e
            clear e
            clear c3
            go_wp2
            go_quiet (fail)
            go_wp2
            go_ret
            exact ⟨ret_i (by rw [E.out]), bdn hbel _⟩
          · have e := H1.out (H3.out.2 ⟨by omega, by omega, c3⟩)
            have c3z : ¬ (x.toNat : Int) = 61 := by omega
            have b3 : ((x.toNat : Int) == 61) = false := by simpa using c3z
            have E := Lib.hid e
            clear e
            go_wp2
            go_quiet (fail)
            go_wp2
            exact ⟨⟨k + 1, by go_num, by omega, E, bdn hbel _⟩, by simp [intOf]; omega⟩
    · have e := ahead_full (bl b) (by have := hR.out; rwa [List.take_of_length_le (by rw [HL.out]; omega)] at this)
      rw [HL.out] at e
      have E := Lib.hid e
      clear e
      go_wp2
      go_ret
      exact ⟨ret_i (by rw [E.out]), hbel⟩
set_option maxHeartbeats 4000000 in
theorem cnamed_any (b : ByteArray) (w : World) (hs : b.size ≤ 1152921504606846976) : Calls Tryz.prog 66 #[.string b] w fun e w' => e = .returned (.bool (namedNM (bl b))) ∧ Below w.heap.size w w' := by
  have k1 := fun w => cahead_any b w hs
  have e1 := named_ahead (bl b)
  rw [bl_length] at e1
  by_cases h0 : bl b = []
  · have hb : b = ⟨#[]⟩ := ByteArray.ext (Array.toList_inj.1 h0)
    subst hb
    go_enter Tryz.func66, Tryz.ntmps66
    go_wp2
    go_ret
    exact ⟨rfl, Below.refl _ _⟩
  · have hne : b.toList.isEmpty = false := by
      rw [ByteArray.toList_eq]
      cases h : b.data.toList with
      | nil => exact absurd h h0
      | cons _ _ => rfl
    rw [decide_eq_false h0, Bool.not_false, Bool.true_and] at e1
    rw [e1]
    generalize aheadM (bl b) = n at *
    have K1 := Lib.hid k1
    clear k1
    clear h0 e1
    go_enter Tryz.func66, Tryz.ntmps66
    go_wp2_with (go_at_call 63; refine (K1.out _).mono ?_; rintro e w1 ⟨rfl, hb1⟩)
    go_ret
    exact ⟨ret_b (by rw [Bool.eq_iff_iff]; simp; omega), hb1⟩
theorem rletter_any (x : UInt8) (w : World) : Calls Tryz.prog 96 #[.int .u8 (x.toNat : Int)] w fun e w' => e = .returned (.bool (letter8 x)) ∧ w = w' := by
  have h := x.toNat_lt
  go_enter Tryz.func96, Tryz.ntmps96
  go_wp2
  all_goals go_ret
  all_goals (refine ⟨ret_b ?_, rfl⟩; unfold letter8; rw [Bool.eq_iff_iff]; simp; omega)
set_option maxHeartbeats 4000000 in
theorem rnamed_any (b : ByteArray) (w : World) (hs : b.size ≤ 1152921504606846976) : Calls Tryz.prog 74 #[.string b] w fun e w' => e = .returned (.bool (namedNM (bl b))) ∧ Below w.heap.size w w' := by
  have HL : Hid ((bl b).length = b.size) := bl_length b
  have K1 := Lib.hid rletter_any
  go_enter Tryz.func74, Tryz.ntmps74
  go_wp2
  go_loopw [3] (fun i wr => ∃ k : Nat, i = .int .i64 (k : Int) ∧ k ≤ b.size ∧ Hid (((bl b).take k).all letter8 = true) ∧ Below w.heap.size w wr) (fun i _ => b.size - (intOf i).toNat)
  case atStart => exact ⟨0, rfl, Nat.zero_le _, Lib.hid (by simp), Below.refl _ _⟩
  case round =>
    obtain ⟨k, rfl, hk, hR, hbel⟩ := hrel
    by_cases hlt : k < b.size
    · obtain ⟨x, hx⟩ := at_some (bl b) k (by rw [HL.out]; exact hlt)
      have X : ∀ h, b[k]'h = x := atB_of b k x hx
      have hxl := x.toNat_lt
      obtain ⟨h1, h2⟩ := ahead_split (bl b) k x hx hR.out
      have hno : letter8 x = false → namedNM (bl b) = false := by
        intro h
        rw [named_ahead, h2 h, HL.out]
        rw [decide_eq_false (show ¬ k = b.size by omega), Bool.and_false]
      have k2 := fun w => K1.out x w
      have H1 := Lib.hid h1
      have HNO := Lib.hid hno
      clear h1 hno
      clear hx h2
      cases hc : letter8 x with
      | true =>
        rw [hc] at k2
        have e := H1.out hc
        have E := Lib.hid e
        have K2 := Lib.hid k2
        clear e k2
        clear hc
        go_wp2_with (go_at_call 96; refine (K2.out _).mono ?_; rintro e w1 ⟨rfl, rfl⟩)
        go_roundw
        case rel => exact ⟨k + 1, by first | omega | go_num, by omega, E, hbel⟩
        case measure => simp [intOf]; omega
      | false =>
        rw [hc] at k2
        have e := HNO.out hc
        have E := Lib.hid e
        have K2 := Lib.hid k2
        clear e k2
        clear hc
        go_wp2_with (go_at_call 96; refine (K2.out _).mono ?_; rintro e w1 ⟨rfl, rfl⟩)
        go_ret
        exact ⟨ret_b E.out.symm, hbel⟩
    · have e : namedNM (bl b) = decide ((b.size : Int) > 0) := by
        have ha : (bl b).all letter8 = true := by have := hR.out; rwa [List.take_of_length_le (by rw [HL.out]; omega)] at this
        unfold namedNM
        rw [ha, Bool.and_true, Bool.eq_iff_iff, decide_eq_true_iff, Bool.not_eq_true', List.isEmpty_eq_false_iff, ← List.length_pos_iff, HL.out]
        omega
      have E := Lib.hid e
      clear e
      go_wp2
      go_ret
      exact ⟨ret_b (by rw [E.out]; simp), hbel⟩
/-- are two names one, whatever their capitals? -/
def likeM (a b : List UInt8) : Bool := decide (smallL a = smallL b)
end Go.Proofs.YtogknbpmgflpgaaGreatDoor
