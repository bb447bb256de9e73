/- Walks: the reference's labels of layer 9: Labels, same, Named. -/
import Derived.Test.YtogknbpmgflpgaaGreatDoorCh
import Derived.Test.YtogknbpmgflpgaaGreatDoorWi
namespace Go.Proofs.YtogknbpmgflpgaaGreatDoor
open Go.RowKit
set_option linter.unusedVariables false
set_option linter.unusedSimpArgs false

def labA : List (List ByteArray) := [
  [⟨#[108, 97, 116, 105, 110, 49]⟩, ⟨#[105, 115, 111, 45, 56, 56, 53, 57, 45, 49]⟩, ⟨#[108, 97, 116, 105, 110, 45, 49]⟩],
  [⟨#[107, 111, 105, 56, 45, 114]⟩, ⟨#[107, 111, 105, 56, 114]⟩],
  [⟨#[107, 111, 105, 56, 45, 117]⟩, ⟨#[107, 111, 105, 56, 117]⟩],
  [⟨#[99, 112, 56, 54, 54]⟩, ⟨#[105, 98, 109, 56, 54, 54]⟩],
  [⟨#[99, 112, 57, 52, 57]⟩, ⟨#[101, 117, 99, 45, 107, 114]⟩, ⟨#[117, 104, 99]⟩],
  [⟨#[106, 111, 104, 97, 98]⟩, ⟨#[99, 112, 49, 51, 54, 49]⟩],
  [⟨#[98, 105, 103, 53, 45, 104, 107, 115, 99, 115]⟩, ⟨#[98, 105, 103, 53]⟩],
  [⟨#[117, 116, 102, 45, 56]⟩, ⟨#[117, 116, 102, 56]⟩],
  [⟨#[117, 116, 102, 45, 49, 54, 108, 101]⟩, ⟨#[117, 116, 102, 49, 54, 108, 101]⟩],
  [⟨#[117, 116, 102, 45, 49, 54, 98, 101]⟩, ⟨#[117, 116, 102, 49, 54, 98, 101]⟩]]
/-- the labels of a charset. -/
def labL (c : Int) : List ByteArray := if 0 ≤ c then (labA[c.toNat]?).getD [] else []
def scells (l : List ByteArray) : List Value := l.map Value.string
theorem row_lits (w : World) (cs : Array Value) (t : TypeId) : Row (w.alloc (.cells cs t)) (.slice (some ⟨w.heap.size, 0, none⟩) cs.size cs.size) cs.size cs.toList := by
  refine ⟨_, _, rfl, fun j x hj => ⟨w.heap.size, 0, rfl, ?_⟩⟩
  rw [Nat.zero_add, World.cell?_alloc_new]
  simpa using hj
def LabPost (l : List ByteArray) (w : World) (e : Ending) (w' : World) : Prop := ∃ v, e = .returned v ∧ Row w' v l.length (scells l) ∧ Below w.heap.size w w'
set_option maxHeartbeats 4000000 in
theorem labels_in (c : Nat) (w : World) (h : c < 10) : Calls Tryz.prog 159 #[.int .i64 (c : Int)] w (LabPost (labL c) w) := by
  unfold LabPost
  rcases (show c = 0 ∨ c = 1 ∨ c = 2 ∨ c = 3 ∨ c = 4 ∨ c = 5 ∨ c = 6 ∨ c = 7 ∨ c = 8 ∨ c = 9 from by omega) with rfl | rfl | rfl | rfl | rfl | rfl | rfl | rfl | rfl | rfl
  · go_enter Tryz.func159, Tryz.ntmps159
    go_wp2
    go_ret
    exact ⟨_, rfl, row_lits w #[.string ⟨#[108, 97, 116, 105, 110, 49]⟩, .string ⟨#[105, 115, 111, 45, 56, 56, 53, 57, 45, 49]⟩, .string ⟨#[108, 97, 116, 105, 110, 45, 49]⟩] 9, bal (Below.refl _ _) _⟩
  · go_enter Tryz.func159, Tryz.ntmps159
    go_wp2
    go_ret
    exact ⟨_, rfl, row_lits w #[.string ⟨#[107, 111, 105, 56, 45, 114]⟩, .string ⟨#[107, 111, 105, 56, 114]⟩] 9, bal (Below.refl _ _) _⟩
  · go_enter Tryz.func159, Tryz.ntmps159
    go_wp2
    go_ret
    exact ⟨_, rfl, row_lits w #[.string ⟨#[107, 111, 105, 56, 45, 117]⟩, .string ⟨#[107, 111, 105, 56, 117]⟩] 9, bal (Below.refl _ _) _⟩
  · go_enter Tryz.func159, Tryz.ntmps159
    go_wp2
    go_ret
    exact ⟨_, rfl, row_lits w #[.string ⟨#[99, 112, 56, 54, 54]⟩, .string ⟨#[105, 98, 109, 56, 54, 54]⟩] 9, bal (Below.refl _ _) _⟩
  · go_enter Tryz.func159, Tryz.ntmps159
    go_wp2
    go_ret
    exact ⟨_, rfl, row_lits w #[.string ⟨#[99, 112, 57, 52, 57]⟩, .string ⟨#[101, 117, 99, 45, 107, 114]⟩, .string ⟨#[117, 104, 99]⟩] 9, bal (Below.refl _ _) _⟩
  · go_enter Tryz.func159, Tryz.ntmps159
    go_wp2
    go_ret
    exact ⟨_, rfl, row_lits w #[.string ⟨#[106, 111, 104, 97, 98]⟩, .string ⟨#[99, 112, 49, 51, 54, 49]⟩] 9, bal (Below.refl _ _) _⟩
  · go_enter Tryz.func159, Tryz.ntmps159
    go_wp2
    go_ret
    exact ⟨_, rfl, row_lits w #[.string ⟨#[98, 105, 103, 53, 45, 104, 107, 115, 99, 115]⟩, .string ⟨#[98, 105, 103, 53]⟩] 9, bal (Below.refl _ _) _⟩
  · go_enter Tryz.func159, Tryz.ntmps159
    go_wp2
    go_ret
    exact ⟨_, rfl, row_lits w #[.string ⟨#[117, 116, 102, 45, 56]⟩, .string ⟨#[117, 116, 102, 56]⟩] 9, bal (Below.refl _ _) _⟩
  · go_enter Tryz.func159, Tryz.ntmps159
    go_wp2
    go_ret
    exact ⟨_, rfl, row_lits w #[.string ⟨#[117, 116, 102, 45, 49, 54, 108, 101]⟩, .string ⟨#[117, 116, 102, 49, 54, 108, 101]⟩] 9, bal (Below.refl _ _) _⟩
  · go_enter Tryz.func159, Tryz.ntmps159
    go_wp2
    go_ret
    exact ⟨_, rfl, row_lits w #[.string ⟨#[117, 116, 102, 45, 49, 54, 98, 101]⟩, .string ⟨#[117, 116, 102, 49, 54, 98, 101]⟩] 9, bal (Below.refl _ _) _⟩
set_option maxHeartbeats 4000000 in
theorem labels_out (c : Int) (w : World) (h : ¬ (0 ≤ c ∧ c ≤ 9)) : Calls Tryz.prog 159 #[.int .i64 c] w (LabPost [] w) := by
  unfold LabPost
  have e0 : (c == 0) = false := by simp; omega
  have e1 : (c == 1) = false := by simp; omega
  have e2 : (c == 2) = false := by simp; omega
  have e3 : (c == 3) = false := by simp; omega
  have e4 : (c == 4) = false := by simp; omega
  have e5 : (c == 5) = false := by simp; omega
  have e6 : (c == 6) = false := by simp; omega
  have e7 : (c == 7) = false := by simp; omega
  have e8 : (c == 8) = false := by simp; omega
  have e9 : (c == 9) = false := by simp; omega
  clear h
  go_enter Tryz.func159, Tryz.ntmps159
  go_wp2
  go_ret
  exact ⟨_, rfl, Row.nil _, Below.refl _ _⟩
theorem labL_len : ∀ c : Fin 10, 1 ≤ (labL (c.val : Nat)).length ∧ (labL (c.val : Nat)).length ≤ 3 := by decide +kernel
theorem sm_snoc (l : List UInt8) (j : Nat) (h : j < l.length) : smallL (l.take (j + 1)) = smallL (l.take j) ++ [sm l[j]] := by
  unfold smallL; rw [List.take_succ_eq_append_getElem h, List.map_append]; rfl
set_option maxHeartbeats 4000000 in
theorem same_any (a b : ByteArray) (w : World) (ha : a.size ≤ 1073741824) : Calls Tryz.prog 160 #[.string a, .string b] w fun e w' => e = .returned (.bool (decide (smallL (bl a) = bl b))) ∧ w = w' := by
  have HA : Hid ((bl a).length = a.size) := bl_length a
  have HB : Hid ((bl b).length = b.size) := bl_length b
  by_cases hl : a.size = b.size
  · have hlz : ((a.size : Int) == b.size) = true := by simp [hl]
    have hle : a.size ≤ b.size := by omega
    have hge : b.size ≤ a.size := by omega
    clear hl
    go_enter Tryz.func160, Tryz.ntmps160
    go_wp2
    go_loop [5] (fun i => ∃ k : Nat, i = .int .i64 (k : Int) ∧ k ≤ a.size ∧ Hid (smallL ((bl a).take k) = (bl b).take k)) (fun i => a.size - (intOf i).toNat)
    case atStart => exact ⟨0, rfl, Nat.zero_le _, Lib.hid (by simp [smallL])⟩
    case round =>
      obtain ⟨k, rfl, hk, hR⟩ := hrel
      by_cases hlt : k < a.size
      · have hltb : k < b.size := by omega
        obtain ⟨x, hx⟩ := at_some (bl a) k (by rw [HA.out]; exact hlt)
        obtain ⟨y, hy⟩ := at_some (bl b) k (by rw [HB.out]; exact hltb)
        have X : ∀ h, a[k]'h = x := atB_of a k x hx
        have Y : ∀ h, b[k]'h = y := atB_of b k y hy
        have hxl := x.toNat_lt
        have hyl := y.toNat_lt
        obtain ⟨hx1, hx2⟩ := List.getElem?_eq_some_iff.1 hx
        obtain ⟨hy1, hy2⟩ := List.getElem?_eq_some_iff.1 hy
        have e1 : smallL ((bl a).take (k + 1)) = (bl b).take k ++ [sm x] := by rw [sm_snoc _ _ hx1, hx2, hR.out]
        have e2 : (bl b).take (k + 1) = (bl b).take k ++ [y] := by rw [List.take_succ_eq_append_getElem hy1, hy2]
        have hstep : sm x = y → smallL ((bl a).take (k + 1)) = (bl b).take (k + 1) := fun h => by rw [e1, e2, h]
        have hno : sm x ≠ y → decide (smallL (bl a) = bl b) = false := by
          intro h
          simp only [decide_eq_false_iff_not]
          intro h2
          have h3 := congrArg (fun l => l.take (k + 1)) h2
          simp only [smallL, ← List.map_take] at h3
          rw [show List.map sm ((bl a).take (k + 1)) = smallL ((bl a).take (k + 1)) from rfl, e1, e2] at h3
          exact h (by simpa using h3)
        have hxw : IntKind.u8.wrap (IntKind.u8.wrap ((x.toNat : Int) - 65) + 97) = if 65 ≤ x.toNat ∧ x.toNat ≤ 90 then (x.toNat : Int) + 32 else IntKind.u8.wrap (IntKind.u8.wrap ((x.toNat : Int) - 65) + 97) := by
          split
          · rw [wraps_u8 ((x.toNat : Int) - 65) (by omega) (by omega), wraps_u8 _ (by omega) (by omega)]; omega
          · rfl
        have hsy : ((sm x).toNat : Int) = if 65 ≤ x.toNat ∧ x.toNat ≤ 90 then (x.toNat : Int) + 32 else x.toNat := by
          unfold sm
          split
          · rw [UInt8.toNat_ofNat']; omega
          · rfl
        have HSTEP := Lib.hid hstep
        have HNO := Lib.hid hno
        clear hstep hno
        clear hx hy hx1 hx2 hy1 hy2 e1 e2
        generalize hs : sm x = s at *
        have hsl := s.toNat_lt
        clear hs
        by_cases hu1 : 65 ≤ x.toNat
        · by_cases hu2 : x.toNat ≤ 90
          · rw [if_pos ⟨hu1, hu2⟩] at hxw hsy
            by_cases he : s = y
            · have hq : (x.toNat : Int) + 32 = (y.toNat : Int) := by rw [← he]; omega
              have hst := HSTEP.out he
              have HST := Lib.hid hst
              clear hst
              clear he hsy
              go_wp2
              exact ⟨⟨k + 1, by first | omega | go_num, by omega, HST⟩, by simp [intOf]; omega⟩
            · have hq : ¬ (x.toNat : Int) + 32 = (y.toNat : Int) := fun h => he (UInt8.toNat_inj.1 (by omega))
              have hno := HNO.out he
              have HNO2 := Lib.hid hno
              clear hno
              clear he hsy
              go_wp2
              go_ret
              exact ⟨ret_b HNO2.out.symm, rfl⟩
          · rw [if_neg (fun h => hu2 h.2)] at hsy
            clear hxw
            by_cases he : s = y
            · have hq : (x.toNat : Int) = (y.toNat : Int) := by rw [← he]; omega
              have hst := HSTEP.out he
              have HST := Lib.hid hst
              clear hst
              clear he hsy
              go_wp2
              exact ⟨⟨k + 1, by first | omega | go_num, by omega, HST⟩, by simp [intOf]; omega⟩
            · have hq : ¬ (x.toNat : Int) = (y.toNat : Int) := fun h => he (UInt8.toNat_inj.1 (by omega))
              have hno := HNO.out he
              have HNO2 := Lib.hid hno
              clear hno
              clear he hsy
              go_wp2
              go_ret
              exact ⟨ret_b HNO2.out.symm, rfl⟩
        · rw [if_neg (fun h => hu1 h.1)] at hsy
          clear hxw
          by_cases he : s = y
          · have hq : (x.toNat : Int) = (y.toNat : Int) := by rw [← he]; omega
            have hst := HSTEP.out he
            have HST := Lib.hid hst
            clear hst
            clear he hsy
            go_wp2
            exact ⟨⟨k + 1, by first | omega | go_num, by omega, HST⟩, by simp [intOf]; omega⟩
          · have hq : ¬ (x.toNat : Int) = (y.toNat : Int) := fun h => he (UInt8.toNat_inj.1 (by omega))
            have hno := HNO.out he
            have HNO2 := Lib.hid hno
            clear hno
            clear he hsy
            go_wp2
            go_ret
            exact ⟨ret_b HNO2.out.symm, rfl⟩
      · have hkk : k = a.size := by omega
        have hR2 := hR.out
        rw [List.take_of_length_le (by rw [HA.out]; omega), List.take_of_length_le (by rw [HB.out]; omega)] at hR2
        have hd : decide (smallL (bl a) = bl b) = true := by simpa using hR2
        have HD := Lib.hid hd
        clear hd
        clear hR hR2
        go_wp2
        go_ret
        exact ⟨ret_b HD.out.symm, rfl⟩
  · have hd : decide (smallL (bl a) = bl b) = false := by
      simp only [decide_eq_false_iff_not]
      intro h
      have := congrArg List.length h
      simp only [smallL, List.length_map] at this
      rw [HA.out, HB.out] at this
      exact hl this
    have hl1 : ¬ (a.size : Int) = b.size := by omega
    have HD := Lib.hid hd
    clear hd
    clear hl
    go_enter Tryz.func160, Tryz.ntmps160
    go_wp2
    go_ret
    exact ⟨ret_b HD.out.symm, rfl⟩
/-- the reference's answer on a label; -1: none. -/
def hasLab (l : List UInt8) (c : Nat) : Bool := (labL (c : Int)).any fun s => decide (smallL l = bl s)
def refNamed (l : List UInt8) : Int := match (List.range 10).find? (hasLab l) with
  | some c => c
  | none => -1
theorem ref_hit (l : List UInt8) (c : Nat) (hc : c < 10) (hb : ∀ d, d < c → hasLab l d = false) (h : hasLab l c = true) : refNamed l = c := by
  have : (List.range 10).find? (hasLab l) = some c := by
    rw [List.find?_eq_some_iff_getElem]
    refine ⟨h, c, by simpa using hc, by simp, fun j hj => ?_⟩
    rw [List.getElem_range, hb j hj]; rfl
  unfold refNamed
  rw [this]
theorem ref_miss (l : List UInt8) (hb : ∀ d, d < 10 → hasLab l d = false) : refNamed l = -1 := by
  have : (List.range 10).find? (hasLab l) = none := by
    rw [List.find?_eq_none]
    intro x hx
    rw [hb x (by simpa using hx)]; simp
  unfold refNamed
  rw [this]
theorem row_at {w : World} {v : Value} {n : Nat} {cs : List Value} (h : Row w v n cs) (j : Nat) (x : Value) (hj : cs[j]? = some x) : ∃ g o cap, v = .slice (some ⟨g, o, none⟩) n cap ∧ w.cell? ⟨g, o + j, none⟩ = some x := by
  obtain ⟨a, cap, rfl, h⟩ := h
  obtain ⟨g, o, rfl, hc⟩ := h j x hj
  exact ⟨g, o, cap, rfl, hc⟩
set_option maxHeartbeats 4000000 in
theorem refNamed_any (s : ByteArray) (w : World) (hs : s.size ≤ 1073741824) : Calls Tryz.prog 122 #[.string s] w fun e w' => e = .returned (.int .i64 (refNamed (bl s))) ∧ Below w.heap.size w w' := by
  have K1 := Lib.hid labels_in
  have K2 := Lib.hid (fun b w => same_any s b w hs)
  have HIT := Lib.hid (ref_hit (bl s))
  have MISS := Lib.hid (ref_miss (bl s))
  generalize refNamed (bl s) = R at *
  go_enter Tryz.func122, Tryz.ntmps122
  go_wp2
  go_loopw [3] (fun cv wr => ∃ c : Nat, cv = .int .i64 (c : Int) ∧ c ≤ 10 ∧ Hid (∀ d, d < c → hasLab (bl s) d = false) ∧ Below w.heap.size w wr) (fun cv _ => 10 - (intOf cv).toNat)
  case atStart => exact ⟨0, rfl, by omega, Lib.hid (fun d hd => by omega), Below.refl _ _⟩
  case round =>
    obtain ⟨c, rfl, hc, hno, hbel⟩ := hrel
    by_cases hlt : c < 10
    · go_wp2_with (go_at_call 159; refine (K1.out c _ hlt).mono ?_; rintro e w1 ⟨v, rfl, hrow, hb1⟩)
      have hb01 := bt hbel hb1
      obtain ⟨n, hn⟩ : ∃ n, n = (labL (c : Int)).length := ⟨_, rfl⟩
      rw [← hn] at hrow
      have hrow2 := hrow
      obtain ⟨a, cap, hv, _⟩ := hrow2
      subst hv
      have hn3 : n ≤ 3 := by rw [hn]; exact (labL_len ⟨c, hlt⟩).2
      have HROW := Lib.hid hrow
      have HN := Lib.hid hn
      clear hrow hn
      go_loop [5] (fun iv => ∃ i : Nat, iv = .int .i64 (i : Int) ∧ i ≤ n ∧ Hid (∀ x ∈ (labL (c : Int)).take i, decide (smallL (bl s) = bl x) = false)) (fun iv => n - (intOf iv).toNat)
      case atStart => exact ⟨0, rfl, Nat.zero_le _, Lib.hid (by simp)⟩
      case round =>
        obtain ⟨i, rfl, hi, hR⟩ := hrel
        by_cases hin : i < n
        · obtain ⟨x, hx⟩ := at_some (labL (c : Int)) i (by rw [← HN.out]; exact hin)
          obtain ⟨g, o, cap', he, hcell⟩ := row_at HROW.out i (.string x) (by unfold scells; rw [List.getElem?_map, hx]; rfl)
          simp only [Value.slice.injEq] at he
          obtain ⟨rfl, _, rfl⟩ := he
          have k2 := fun w => K2.out x w
          have hmem := List.mem_of_getElem? hx
          have htk : (labL (c : Int)).take (i + 1) = (labL (c : Int)).take i ++ [x] := by rw [List.take_add_one, hx]; rfl
          cases hB : decide (smallL (bl s) = bl x) with
          | true =>
            rw [hB] at k2
            have hh := HIT.out c hlt hno.out (by unfold hasLab; rw [List.any_eq_true]; exact ⟨x, hmem, hB⟩)
            have HH := Lib.hid hh
            have K3 := Lib.hid k2
            clear hh k2
            clear hB hx hmem htk
            go_wp2_with (go_at_call 160; refine (K3.out _).mono ?_; rintro e w2 ⟨rfl, rfl⟩)
            go_ret
            exact ⟨ret_i HH.out.symm, hb01⟩
          | false =>
            rw [hB] at k2
            have hR2 : ∀ x ∈ (labL (c : Int)).take (i + 1), decide (smallL (bl s) = bl x) = false := by
              intro y hy
              rw [htk] at hy
              rcases List.mem_append.1 hy with h | h
              · exact hR.out y h
              · simp only [List.mem_singleton] at h; rw [h]; exact hB
            have HR2 := Lib.hid hR2
            have K3 := Lib.hid k2
            clear hR2 k2
            clear hB hx hmem htk
            go_wp2_with (go_at_call 160; refine (K3.out _).mono ?_; rintro e w2 ⟨rfl, rfl⟩)
            exact ⟨⟨i + 1, by first | omega | go_num, by omega, HR2⟩, by simp [intOf]; omega⟩
        · have hin2 : i = n := by omega
          subst hin2
          have hno2 : ∀ d, d < c + 1 → hasLab (bl s) d = false := by
            intro d hd
            rcases Nat.lt_or_ge d c with h | h
            · exact hno.out d h
            · obtain rfl : d = c := by omega
              unfold hasLab
              rw [List.any_eq_false]
              intro x hx
              have := hR.out x (by rw [HN.out, List.take_length]; exact hx)
              simpa using this
          have HNO2 := Lib.hid hno2
          clear hno2
          go_wp2
          exact ⟨⟨c + 1, by first | omega | go_num, by omega, HNO2, hb01⟩, by simp [intOf]; omega⟩
    · have hc10 : c = 10 := by omega
      subst hc10
      have hm := MISS.out hno.out
      have HM := Lib.hid hm
      clear hm
      go_wp2
      go_ret
      exact ⟨ret_i HM.out.symm, hbel⟩
end Go.Proofs.YtogknbpmgflpgaaGreatDoor
