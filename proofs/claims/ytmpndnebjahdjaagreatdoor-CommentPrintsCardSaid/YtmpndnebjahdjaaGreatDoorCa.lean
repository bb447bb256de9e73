/- Walks: names of notes: ahead, Named, small, same (layer 19), the reference's and the law's. -/
import Derived.Test.YtmpndnebjahdjaaGreatDoorNa
import Derived.Test.YtmpndnebjahdjaaGreatDoorCp
namespace Go.Proofs.YtmpndnebjahdjaaGreatDoor
open Go.RowKit
set_option linter.unusedVariables false
set_option linter.unusedSimpArgs false

theorem ahead_split (l : List UInt8) (k : Nat) (x : UInt8) (h : l[k]? = some x) (ha : (l.take k).all letter8 = true) :
    (letter8 x = true → (l.take (k + 1)).all letter8 = true) ∧ (letter8 x = false → aheadM l = k) := by
  obtain ⟨h1, h2⟩ := List.getElem?_eq_some_iff.1 h
  constructor
  · intro hx
    rw [List.take_succ_eq_append_getElem h1, List.all_append, ha, h2]
    simp [hx]
  · intro hx
    have e : l = l.take k ++ x :: l.drop (k + 1) := by
      rw [← h2, ← List.drop_eq_getElem_cons h1, List.take_append_drop]
    unfold aheadM
    rw [e, List.takeWhile_append_of_pos (by simpa [List.all_eq_true] using ha), List.takeWhile_cons, hx]
    simp
    omega
theorem ahead_full (l : List UInt8) (h : l.all letter8 = true) : aheadM l = l.length := by
  unfold aheadM
  induction l with
  | nil => rfl
  | cons a l ih =>
    rw [List.all_cons, Bool.and_eq_true] at h
    rw [List.takeWhile_cons, h.1, if_pos rfl, List.length_cons, List.length_cons, ih h.2]
theorem named_ahead (l : List UInt8) : namedNM l = (!decide (l = []) && decide (aheadM l = l.length)) := by
  unfold namedNM
  congr 1
  · cases l <;> simp
  · rw [Bool.eq_iff_iff, decide_eq_true_iff]
    constructor
    · exact ahead_full l
    · intro h
      have := ahead_all l
      rw [h, List.take_length] at this
      exact this.1
theorem letter8_iff (x : UInt8) : letter8 x = true ↔ 32 ≤ x.toNat ∧ x.toNat ≤ 125 ∧ x.toNat ≠ 61 := by unfold letter8; simp

set_option maxHeartbeats 4000000 in
theorem cahead_any (b : ByteArray) (w : World) (hs : b.size ≤ 1152921504606846976) : Calls Tryz.prog 72 #[.string b] w fun e w' => e = .returned (.int .i64 (aheadM (bl b))) ∧ Below w.heap.size w w' := by
  have HL : Hid ((bl b).length = b.size) := bl_length b
  have X61 : ∀ h, (⟨#[61]⟩ : ByteArray)[0]'h = 61 := fun h => rfl
  go_enter Tryz.func72, Tryz.ntmps72
  go_wp2
  go_loopw [6] (fun i wr => ∃ k : Nat, i = .int .i64 (k : Int) ∧ k ≤ b.size ∧ Hid (((bl b).take k).all letter8 = true) ∧ Below w.heap.size w wr) (fun i _ => b.size - (intOf i).toNat)
  case atStart => exact ⟨0, rfl, Nat.zero_le _, Lib.hid (by simp), Below.refl _ _⟩
  case round =>
    obtain ⟨k, rfl, hk, hR, hbel⟩ := hrel
    by_cases hlt : k < b.size
    · obtain ⟨x, hx⟩ := at_some (bl b) k (by rw [HL.out]; exact hlt)
      have X : ∀ h, b[k]'h = x := atB_of b k x hx
      have hxl := x.toNat_lt
      obtain ⟨h1, h2⟩ := ahead_split (bl b) k x hx hR.out
      have h3 := letter8_iff x
      have H1 := Lib.hid h1
      have H2 := Lib.hid h2
      have H3 := Lib.hid h3
      clear h1 h2 h3
      clear hx
      by_cases c1 : x.toNat < 32
      · have e := H2.out (by cases h : letter8 x; rfl; have := H3.out.1 h; omega)
        have b1 : decide ((x.toNat : Int) < 32) = true := by simp; omega
        have E := Lib.hid e
        clear e
        go_wp2
        go_quiet (fail)
        go_wp2
        go_ret
        exact ⟨ret_i (by rw [E.out]), bdn hbel _⟩
      · have b1 : decide ((x.toNat : Int) < 32) = false := by simp; omega
        by_cases c2 : 125 < x.toNat
        · have e := H2.out (by cases h : letter8 x; rfl; have := H3.out.1 h; omega)
          have b2 : decide ((x.toNat : Int) > 125) = true := by simp; omega
          have b2' : decide (125 < (x.toNat : Int)) = true := b2
          have E := Lib.hid e
          clear e
          go_wp2
          go_quiet (fail)
          go_wp2
          go_ret
          exact ⟨ret_i (by rw [E.out]), bdn hbel _⟩
        · have b2 : decide ((x.toNat : Int) > 125) = false := by simp; omega
          have b2' : decide (125 < (x.toNat : Int)) = false := b2
          by_cases c3 : x.toNat = 61
          · have e := H2.out (by cases h : letter8 x; rfl; have := H3.out.1 h; omega)
            have c3z : (x.toNat : Int) = 61 := by omega
            have b3 : ((x.toNat : Int) == 61) = true := by simpa using c3z
            have E := Lib.hid e
            clear e
            clear c3
            go_wp2
            go_quiet (fail)
            go_wp2
            go_ret
            exact ⟨ret_i (by rw [E.out]), bdn hbel _⟩
          · have e := H1.out (H3.out.2 ⟨by omega, by omega, c3⟩)
            have c3z : ¬ (x.toNat : Int) = 61 := by omega
            have b3 : ((x.toNat : Int) == 61) = false := by simpa using c3z
            have E := Lib.hid e
            clear e
            go_wp2
            go_quiet (fail)
            go_wp2
            exact ⟨⟨k + 1, by go_num, by omega, E, bdn hbel _⟩, by simp [intOf]; omega⟩
    · have e := ahead_full (bl b) (by have := hR.out; rwa [List.take_of_length_le (by rw [HL.out]; omega)] at this)
      rw [HL.out] at e
      have E := Lib.hid e
      clear e
      go_wp2
      go_ret
      exact ⟨ret_i (by rw [E.out]), hbel⟩
set_option maxHeartbeats 4000000 in
theorem cnamed_any (b : ByteArray) (w : World) (hs : b.size ≤ 1152921504606846976) : Calls Tryz.prog 27 #[.string b] w fun e w' => e = .returned (.bool (namedNM (bl b))) ∧ Below w.heap.size w w' := by
  have k1 := fun w => cahead_any b w hs
  have e1 := named_ahead (bl b)
  rw [bl_length] at e1
  by_cases h0 : bl b = []
  · have hb : b = ⟨#[]⟩ := ByteArray.ext (Array.toList_inj.1 h0)
    subst hb
    go_enter Tryz.func27, Tryz.ntmps27
    go_wp2
    go_ret
    exact ⟨rfl, Below.refl _ _⟩
  · have hne : b.toList.isEmpty = false := by
      rw [ByteArray.toList_eq]
      cases h : b.data.toList with
      | nil => exact absurd h h0
      | cons _ _ => rfl
    rw [decide_eq_false h0, Bool.not_false, Bool.true_and] at e1
    rw [e1]
    generalize aheadM (bl b) = n at *
    have K1 := Lib.hid k1
    clear k1
    clear h0 e1
    go_enter Tryz.func27, Tryz.ntmps27
    go_wp2_with (go_at_call 72; refine (K1.out _).mono ?_; rintro e w1 ⟨rfl, hb1⟩)
    go_ret
    exact ⟨ret_b (by rw [Bool.eq_iff_iff]; simp; omega), hb1⟩
theorem rletter_any (x : UInt8) (w : World) : Calls Tryz.prog 73 #[.int .u8 (x.toNat : Int)] w fun e w' => e = .returned (.bool (letter8 x)) ∧ w = w' := by
  have h := x.toNat_lt
  go_enter Tryz.func73, Tryz.ntmps73
  go_wp2
  all_goals go_ret
  all_goals (refine ⟨ret_b ?_, rfl⟩; unfold letter8; rw [Bool.eq_iff_iff]; simp; omega)
set_option maxHeartbeats 4000000 in
theorem rnamed_any (b : ByteArray) (w : World) (hs : b.size ≤ 1152921504606846976) : Calls Tryz.prog 28 #[.string b] w fun e w' => e = .returned (.bool (namedNM (bl b))) ∧ Below w.heap.size w w' := by
  have HL : Hid ((bl b).length = b.size) := bl_length b
  have K1 := Lib.hid rletter_any
  go_enter Tryz.func28, Tryz.ntmps28
  go_wp2
  go_loopw [3] (fun i wr => ∃ k : Nat, i = .int .i64 (k : Int) ∧ k ≤ b.size ∧ Hid (((bl b).take k).all letter8 = true) ∧ Below w.heap.size w wr) (fun i _ => b.size - (intOf i).toNat)
  case atStart => exact ⟨0, rfl, Nat.zero_le _, Lib.hid (by simp), Below.refl _ _⟩
  case round =>
    obtain ⟨k, rfl, hk, hR, hbel⟩ := hrel
    by_cases hlt : k < b.size
    · obtain ⟨x, hx⟩ := at_some (bl b) k (by rw [HL.out]; exact hlt)
      have X : ∀ h, b[k]'h = x := atB_of b k x hx
      have hxl := x.toNat_lt
      obtain ⟨h1, h2⟩ := ahead_split (bl b) k x hx hR.out
      have hno : letter8 x = false → namedNM (bl b) = false := by
        intro h
        rw [named_ahead, h2 h, HL.out]
        rw [decide_eq_false (show ¬ k = b.size by omega), Bool.and_false]
      have k2 := fun w => K1.out x w
      have H1 := Lib.hid h1
      have HNO := Lib.hid hno
      clear h1 hno
      clear hx h2
      cases hc : letter8 x with
      | true =>
        rw [hc] at k2
        have e := H1.out hc
        have E := Lib.hid e
        have K2 := Lib.hid k2
        clear e k2
        clear hc
        go_wp2_with (go_at_call 73; refine (K2.out _).mono ?_; rintro e w1 ⟨rfl, rfl⟩)
        go_roundw
        case rel => exact ⟨k + 1, by first | omega | go_num, by omega, E, hbel⟩
        case measure => simp [intOf]; omega
      | false =>
        rw [hc] at k2
        have e := HNO.out hc
        have E := Lib.hid e
        have K2 := Lib.hid k2
        clear e k2
        clear hc
        go_wp2_with (go_at_call 73; refine (K2.out _).mono ?_; rintro e w1 ⟨rfl, rfl⟩)
        go_ret
        exact ⟨ret_b E.out.symm, hbel⟩
    · have e : namedNM (bl b) = decide ((b.size : Int) > 0) := by
        have ha : (bl b).all letter8 = true := by have := hR.out; rwa [List.take_of_length_le (by rw [HL.out]; omega)] at this
        unfold namedNM
        rw [ha, Bool.and_true, Bool.eq_iff_iff, decide_eq_true_iff, Bool.not_eq_true', List.isEmpty_eq_false_iff, ← List.length_pos_iff, HL.out]
        omega
      have E := Lib.hid e
      clear e
      go_wp2
      go_ret
      exact ⟨ret_b (by rw [E.out]; simp), hbel⟩
theorem csmall_any (x : UInt8) (w : World) : Calls Tryz.prog 132 #[.int .u8 (x.toNat : Int)] w fun e w' => e = .returned (.int .u8 ((sm x).toNat : Int)) ∧ w = w' := by
  have hl := x.toNat_lt
  have hsy : ((sm x).toNat : Int) = if 65 ≤ x.toNat ∧ x.toNat ≤ 90 then (x.toNat : Int) + 32 else x.toNat := by
    unfold sm
    split
    · rw [UInt8.toNat_ofNat']; omega
    · rfl
  rw [hsy]
  clear hsy
  by_cases hu1 : 65 ≤ x.toNat
  · by_cases hu2 : x.toNat ≤ 90
    · have hw1 := wraps_u8 ((x.toNat : Int) + 97) (by omega) (by omega)
      have hw2 := wraps_u8 ((x.toNat : Int) + 97 - 65) (by omega) (by omega)
      rw [if_pos ⟨hu1, hu2⟩]
      go_enter Tryz.func132, Tryz.ntmps132
      go_wp2
      go_ret
      exact ⟨ret_i (by omega), rfl⟩
    · rw [if_neg (by omega)]
      go_enter Tryz.func132, Tryz.ntmps132
      go_wp2
      go_ret
      exact ⟨rfl, rfl⟩
  · rw [if_neg (by omega)]
    go_enter Tryz.func132, Tryz.ntmps132
    go_wp2
    go_ret
    exact ⟨rfl, rfl⟩
theorem lfold_any (x : UInt8) (w : World) : Calls Tryz.prog 74 #[.int .u8 (x.toNat : Int)] w fun e w' => e = .returned (.int .u8 ((sm x).toNat : Int)) ∧ w = w' := by
  have hl := x.toNat_lt
  have hsy : ((sm x).toNat : Int) = if 65 ≤ x.toNat ∧ x.toNat ≤ 90 then (x.toNat : Int) + 32 else x.toNat := by
    unfold sm
    split
    · rw [UInt8.toNat_ofNat']; omega
    · rfl
  rw [hsy]
  clear hsy
  by_cases hu1 : 65 ≤ x.toNat
  · by_cases hu2 : x.toNat ≤ 90
    · have hw1 := wraps_u8 ((x.toNat : Int) - 65) (by omega) (by omega)
      have hw2 := wraps_u8 ((x.toNat : Int) - 65 + 97) (by omega) (by omega)
      rw [if_pos ⟨hu1, hu2⟩]
      go_enter Tryz.func74, Tryz.ntmps74
      go_wp2
      go_ret
      exact ⟨ret_i (by omega), rfl⟩
    · rw [if_neg (by omega)]
      go_enter Tryz.func74, Tryz.ntmps74
      go_wp2
      go_ret
      exact ⟨rfl, rfl⟩
  · rw [if_neg (by omega)]
    go_enter Tryz.func74, Tryz.ntmps74
    go_wp2
    go_ret
    exact ⟨rfl, rfl⟩
/-- are two names one, whatever their capitals? -/
def likeM (a b : List UInt8) : Bool := decide (smallL a = smallL b)
set_option maxRecDepth 100000 in
set_option maxHeartbeats 4000000 in
theorem csame_any (a b : ByteArray) (w : World) (ha : a.size ≤ 1152921504606846976) : Calls Tryz.prog 75 #[.string a, .string b] w fun e w' => e = .returned (.bool (likeM (bl a) (bl b))) ∧ Below w.heap.size w w' := by
  have HA : Hid ((bl a).length = a.size) := bl_length a
  have HB : Hid ((bl b).length = b.size) := bl_length b
  have K1 := Lib.hid csmall_any
  by_cases hl : a.size = b.size
  · have hlz : ((a.size : Int) == b.size) = true := by simp [hl]
    have hlz2 : ((a.size : Int) != b.size) = false := by simp [hl]
    have hle : a.size ≤ b.size := by omega
    have hge : b.size ≤ a.size := by omega
    clear hl
    go_enter Tryz.func75, Tryz.ntmps75
    go_wp2
    go_loopw [13] (fun i wr => ∃ k : Nat, i = .int .i64 (k : Int) ∧ k ≤ a.size ∧ Hid (smallL ((bl a).take k) = smallL ((bl b).take k)) ∧ Below w.heap.size w wr) (fun i _ => a.size - (intOf i).toNat)
    case atStart => exact ⟨0, rfl, Nat.zero_le _, Lib.hid (by simp [smallL]), Below.refl _ _⟩
    case round =>
      obtain ⟨k, rfl, hk, hR, hbel⟩ := hrel
      by_cases hlt : k < a.size
      · have hltb : k < b.size := by omega
        obtain ⟨x, hx⟩ := at_some (bl a) k (by rw [HA.out]; exact hlt)
        obtain ⟨y, hy⟩ := at_some (bl b) k (by rw [HB.out]; exact hltb)
        have X : ∀ h, a[k]'h = x := atB_of a k x hx
        have Y : ∀ h, b[k]'h = y := atB_of b k y hy
        have hxl := x.toNat_lt
        have hyl := y.toNat_lt
        obtain ⟨hx1, hx2⟩ := List.getElem?_eq_some_iff.1 hx
        obtain ⟨hy1, hy2⟩ := List.getElem?_eq_some_iff.1 hy
        have e1 : smallL ((bl a).take (k + 1)) = smallL ((bl b).take k) ++ [sm x] := by rw [sm_snoc _ _ hx1, hx2, hR.out]
        have e2 : smallL ((bl b).take (k + 1)) = smallL ((bl b).take k) ++ [sm y] := by rw [sm_snoc _ _ hy1, hy2]
        have hstep : sm x = sm y → smallL ((bl a).take (k + 1)) = smallL ((bl b).take (k + 1)) := fun h => by rw [e1, e2, h]
        have hno : sm x ≠ sm y → likeM (bl a) (bl b) = false := by
          intro h
          unfold likeM
          simp only [decide_eq_false_iff_not]
          intro h2
          have h3 := congrArg (fun l => l.take (k + 1)) h2
          simp only [smallL, ← List.map_take] at h3
          rw [show List.map sm ((bl a).take (k + 1)) = smallL ((bl a).take (k + 1)) from rfl, show List.map sm ((bl b).take (k + 1)) = smallL ((bl b).take (k + 1)) from rfl, e1, e2] at h3
          exact h (by simpa using h3)
        have HSTEP := Lib.hid hstep
        have HNO := Lib.hid hno
        clear hstep hno
        clear hx hy hx1 hx2 hy1 hy2 e1 e2
        have hsl := (sm x).toNat_lt
        have htl := (sm y).toNat_lt
        by_cases he : sm x = sm y
        · have hst := HSTEP.out he
          have hq : ((sm x).toNat : Int) = ((sm y).toNat : Int) := by rw [he]
          have HST := Lib.hid hst
          clear hst
          clear he
          go_wp2
          go_quiet ((go_at_call 132; exact Calls.quiet_of_same ((K1.out _ _).mono fun e w' h => ⟨h.1, h.2.symm⟩)))
          go_wp2
          go_roundw
          case rel => exact ⟨k + 1, by first | omega | go_num, by omega, HST, bdn hbel _⟩
          case measure => simp [intOf]; omega
        · have hq : ¬ ((sm x).toNat : Int) = ((sm y).toNat : Int) := fun h => he (UInt8.toNat_inj.1 (by omega))
          have hno := HNO.out he
          have HNO2 := Lib.hid hno
          clear hno
          clear he
          go_wp2
          go_quiet ((go_at_call 132; exact Calls.quiet_of_same ((K1.out _ _).mono fun e w' h => ⟨h.1, h.2.symm⟩)))
          go_wp2
          go_ret
          exact ⟨ret_b HNO2.out.symm, bdn hbel _⟩
      · have hkk : k = a.size := by omega
        have hR2 := hR.out
        rw [List.take_of_length_le (by rw [HA.out]; omega), List.take_of_length_le (by rw [HB.out]; omega)] at hR2
        have hd : likeM (bl a) (bl b) = true := by unfold likeM; simpa using hR2
        have HD := Lib.hid hd
        clear hd
        clear hR hR2
        go_wp2
        go_ret
        exact ⟨ret_b HD.out.symm, hbel⟩
  · have hd : likeM (bl a) (bl b) = false := by
      unfold likeM
      simp only [decide_eq_false_iff_not]
      intro h
      have := congrArg List.length h
      simp only [smallL, List.length_map] at this
      rw [HA.out, HB.out] at this
      exact hl this
    have hl1 : ¬ (a.size : Int) = b.size := by omega
    have HD := Lib.hid hd
    clear hd
    clear hl
    go_enter Tryz.func75, Tryz.ntmps75
    go_wp2
    go_ret
    exact ⟨ret_b HD.out.symm, Below.refl _ _⟩
set_option maxRecDepth 100000 in
set_option maxHeartbeats 4000000 in
theorem lalike_any (a b : ByteArray) (w : World) (ha : a.size ≤ 1152921504606846976) : Calls Tryz.prog 29 #[.string a, .string b] w fun e w' => e = .returned (.bool (likeM (bl a) (bl b))) ∧ Below w.heap.size w w' := by
  have HA : Hid ((bl a).length = a.size) := bl_length a
  have HB : Hid ((bl b).length = b.size) := bl_length b
  have K1 := Lib.hid lfold_any
  by_cases hl : a.size = b.size
  · have hlz : ((a.size : Int) == b.size) = true := by simp [hl]
    have hlz2 : ((a.size : Int) != b.size) = false := by simp [hl]
    have hle : a.size ≤ b.size := by omega
    have hge : b.size ≤ a.size := by omega
    clear hl
    go_enter Tryz.func29, Tryz.ntmps29
    go_wp2
    go_loopw [13] (fun i wr => ∃ k : Nat, i = .int .i64 (k : Int) ∧ k ≤ a.size ∧ Hid (smallL ((bl a).take k) = smallL ((bl b).take k)) ∧ Below w.heap.size w wr) (fun i _ => a.size - (intOf i).toNat)
    case atStart => exact ⟨0, rfl, Nat.zero_le _, Lib.hid (by simp [smallL]), Below.refl _ _⟩
    case round =>
      obtain ⟨k, rfl, hk, hR, hbel⟩ := hrel
      by_cases hlt : k < a.size
      · have hltb : k < b.size := by omega
        obtain ⟨x, hx⟩ := at_some (bl a) k (by rw [HA.out]; exact hlt)
        obtain ⟨y, hy⟩ := at_some (bl b) k (by rw [HB.out]; exact hltb)
        have X : ∀ h, a[k]'h = x := atB_of a k x hx
        have Y : ∀ h, b[k]'h = y := atB_of b k y hy
        have hxl := x.toNat_lt
        have hyl := y.toNat_lt
        obtain ⟨hx1, hx2⟩ := List.getElem?_eq_some_iff.1 hx
        obtain ⟨hy1, hy2⟩ := List.getElem?_eq_some_iff.1 hy
        have e1 : smallL ((bl a).take (k + 1)) = smallL ((bl b).take k) ++ [sm x] := by rw [sm_snoc _ _ hx1, hx2, hR.out]
        have e2 : smallL ((bl b).take (k + 1)) = smallL ((bl b).take k) ++ [sm y] := by rw [sm_snoc _ _ hy1, hy2]
        have hstep : sm x = sm y → smallL ((bl a).take (k + 1)) = smallL ((bl b).take (k + 1)) := fun h => by rw [e1, e2, h]
        have hno : sm x ≠ sm y → likeM (bl a) (bl b) = false := by
          intro h
          unfold likeM
          simp only [decide_eq_false_iff_not]
          intro h2
          have h3 := congrArg (fun l => l.take (k + 1)) h2
          simp only [smallL, ← List.map_take] at h3
          rw [show List.map sm ((bl a).take (k + 1)) = smallL ((bl a).take (k + 1)) from rfl, show List.map sm ((bl b).take (k + 1)) = smallL ((bl b).take (k + 1)) from rfl, e1, e2] at h3
          exact h (by simpa using h3)
        have HSTEP := Lib.hid hstep
        have HNO := Lib.hid hno
        clear hstep hno
        clear hx hy hx1 hx2 hy1 hy2 e1 e2
        have hsl := (sm x).toNat_lt
        have htl := (sm y).toNat_lt
        by_cases he : sm x = sm y
        · have hst := HSTEP.out he
          have hq : ((sm x).toNat : Int) = ((sm y).toNat : Int) := by rw [he]
          have HST := Lib.hid hst
          clear hst
          clear he
          go_wp2
          go_quiet ((go_at_call 74; exact Calls.quiet_of_same ((K1.out _ _).mono fun e w' h => ⟨h.1, h.2.symm⟩)))
          go_wp2
          go_roundw
          case rel => exact ⟨k + 1, by first | omega | go_num, by omega, HST, bdn hbel _⟩
          case measure => simp [intOf]; omega
        · have hq : ¬ ((sm x).toNat : Int) = ((sm y).toNat : Int) := fun h => he (UInt8.toNat_inj.1 (by omega))
          have hno := HNO.out he
          have HNO2 := Lib.hid hno
          clear hno
          clear he
          go_wp2
          go_quiet ((go_at_call 74; exact Calls.quiet_of_same ((K1.out _ _).mono fun e w' h => ⟨h.1, h.2.symm⟩)))
          go_wp2
          go_ret
          exact ⟨ret_b HNO2.out.symm, bdn hbel _⟩
      · have hkk : k = a.size := by omega
        have hR2 := hR.out
        rw [List.take_of_length_le (by rw [HA.out]; omega), List.take_of_length_le (by rw [HB.out]; omega)] at hR2
        have hd : likeM (bl a) (bl b) = true := by unfold likeM; simpa using hR2
        have HD := Lib.hid hd
        clear hd
        clear hR hR2
        go_wp2
        go_ret
        exact ⟨ret_b HD.out.symm, hbel⟩
  · have hd : likeM (bl a) (bl b) = false := by
      unfold likeM
      simp only [decide_eq_false_iff_not]
      intro h
      have := congrArg List.length h
      simp only [smallL, List.length_map] at this
      rw [HA.out, HB.out] at this
      exact hl this
    have hl1 : ¬ (a.size : Int) = b.size := by omega
    have HD := Lib.hid hd
    clear hd
    clear hl
    go_enter Tryz.func29, Tryz.ntmps29
    go_wp2
    go_ret
    exact ⟨ret_b HD.out.symm, Below.refl _ _⟩
end Go.Proofs.YtmpndnebjahdjaaGreatDoor
