/- Walk: a number's digits, by the reference (layer 30). -/
import Derived.Test.YtjoechkdmdinoaaGreatDoorMCy
import Derived.Lib.ItoaNum
import Derived.Deep.RegionHeld3
import Derived.Test.YtjoechkdmdinoaaGreatDoorMFy
import Derived.Test.YtjoechkdmdinoaaGreatDoorMMore
namespace Go.Proofs.YtjoechkdmdinoaaGreatDoor
open Go.RowKit
set_option linter.unusedVariables false
set_option linter.unusedSimpArgs false

theorem pow_bound (j n : Nat) (h : 10 ^ (j + 1) ≤ n) (hn : n ≤ 9223372036854775807) : j + 1 ≤ 20 := by
  by_cases hc : j + 1 ≤ 20
  · exact hc
  · exfalso
    have h1 : (10 : Nat) ^ 20 ≤ 10 ^ (j + 1) := Nat.pow_le_pow_right (by decide) (by omega)
    have h2 : (10 : Nat) ^ 20 = 100000000000000000000 := by decide
    omega
theorem bl_eq' {a b : ByteArray} (h : a.data.toList = b.data.toList) : a = b := ByteArray.ext (Array.ext' h)
theorem dec_step (x : Nat) (h : ¬ x < 10) : Lib.decDigits x = Lib.decDigits (x / 10) ++ [UInt8.ofNat (48 + x % 10)] := by rw [Lib.decDigits, dif_neg h]
theorem dec_last (x : Nat) (h : x < 10) : Lib.decDigits x = [UInt8.ofNat (48 + x)] := by rw [Lib.decDigits, dif_pos h]
set_option maxRecDepth 100000 in
set_option maxHeartbeats 4000000 in
theorem rdigits_any (n : Nat) (w : World) (hn : n ≤ 9223372036854775807) : Calls Tryz.prog 30 #[.int .i64 (n : Int)] w fun e w' => e = .returned (.string ⟨(Lib.decDigits n).toArray⟩) ∧ Below w.heap.size w w' := by
  have hcv : ∀ (x : Nat) (W : World), x < 256 → (convert 77 9 (.slice (some ⟨W.heap.size, 0, none⟩) 1 1)).run Tryz.prog (W.alloc (.cells #[.int .u8 (x : Int)] 5)) = .ok (.string ⟨#[UInt8.ofNat x]⟩) (W.alloc (.cells #[.int .u8 (x : Int)] 5)) := by
    intro x W hx
    have h := conv_own (l := [UInt8.ofNat x]) 77 9 Tryz.underlying77 Tryz.underlying5 Tryz.underlying9 (World.ownsRow_lit (size := 1) (base := W.heap.size) W #[.int .u8 ((UInt8.ofNat x).toNat : Int)] 1 (Nat.le_refl _) (by unfold maxLen; omega) rfl)
    rw [show (UInt8.ofNat x).toNat = x by rw [UInt8.toNat_ofNat']; omega] at h
    exact h
  obtain ⟨E, hE⟩ : ∃ E, E = Lib.decDigits n := ⟨_, rfl⟩
  rw [← hE]
  have HNN := Lib.hid hn
  have HCV := Lib.hid hcv
  have HE := Lib.hid hE
  clear hcv hE
  go_enter Tryz.func30, Tryz.ntmps30
  go_wp2_with fail
  go_loopw [0, 3] (fun nv tv wr => ∃ (x j : Nat) (T : ByteArray), nv = .int .i64 (x : Int) ∧ tv = .string T ∧ x * 10 ^ j ≤ n ∧ T.size = j ∧ j ≤ 20 ∧ Hid (Lib.decDigits x ++ bl T = E) ∧ Hid (Below w.heap.size w wr)) (fun nv _ _ => (intOf nv).toNat)
  case atStart => exact ⟨n, 0, ⟨#[]⟩, rfl, rfl, by omega, rfl, by omega, Lib.hid (by rw [HE.out]; simp [bl]), Lib.hid (Below.refl _ _)⟩
  case round =>
    obtain ⟨x, j, T, rfl, rfl, hx, hT, hj, HT, HB⟩ := hrel
    have hm : (x : Int).tmod 10 = ((x % 10 : Nat) : Int) := rfl
    have hd : (x : Int).tdiv 10 = ((x / 10 : Nat) : Int) := rfl
    have hxn : x ≤ n := Nat.le_trans (Nat.le_mul_of_pos_right x (Nat.pow_pos (by decide))) hx
    obtain ⟨r, hr⟩ : ∃ r, r = x % 10 := ⟨_, rfl⟩
    obtain ⟨q, hq⟩ : ∃ q, q = x / 10 := ⟨_, rfl⟩
    have hr10 : r < 10 := by omega
    rw [← hr] at hm
    rw [← hq] at hd
    have h1 : IntKind.i64.wrap (48 + (r : Int)) = 48 + (r : Int) := wi64 _ (by omega) (by omega)
    have h2 : IntKind.u8.wrap (48 + (r : Int)) = 48 + (r : Int) := wraps_u8 _ (by omega) (by omega)
    have h3 : IntKind.i64.wrap (q : Int) = (q : Int) := wi64 _ (by omega) (by omega)
    have hcv := fun W => HCV.out (48 + r) W (by omega)
    rw [show ((48 + r : Nat) : Int) = 48 + (r : Int) by omega] at hcv
    have hbx := bal HB.out (.cells #[.int .u8 (48 + (r : Int))] 5)
    have hTs : T.size ≤ 20 := by omega
    have HX := Lib.hid hx
    have HR := Lib.hid hr
    have HQ := Lib.hid hq
    have HJ := Lib.hid hT
    have HBX := Lib.hid hbx
    have HN := Lib.hid hxn
    clear hx hr hq hT hbx hxn hn
    obtain ⟨bb, hbb⟩ : ∃ bb, bb = UInt8.ofNat (48 + r) := ⟨_, rfl⟩
    rw [← hbb] at hcv
    have HBB := Lib.hid hbb
    clear hbb
    by_cases hz : q = 0
    · subst hz
      have hz0 : ((0 : Nat) : Int) = 0 := rfl
      go_wp2_with fail
      go_ret
      refine ⟨ret_s ?_, HBX.out⟩
      have hx10 : x < 10 := by have := HQ.out; omega
      have e := HT.out
      rw [dec_last x hx10] at e
      rw [← e, HBB.out, HR.out, show x % 10 = x by omega]
      apply bl_eq'
      simp [bl, ByteArray.data_append]
    · have hqz : ((q : Int) == 0) = false := by rw [beq_eq_false_iff_ne]; omega
      have hqn : ¬ (q : Int) = 0 := by omega
      have HZ := Lib.hid hz
      clear hz
      go_wp2_with fail
      refine ⟨⟨q, j + 1, ⟨#[bb]⟩ ++ T, rfl, rfl, ?_, ?_, ?_, Lib.hid ?_, HBX⟩, ?_⟩
      · rw [HQ.out, Nat.pow_succ, Nat.mul_comm (10 ^ j) 10, ← Nat.mul_assoc]
        exact Nat.le_trans (Nat.mul_le_mul_right _ (by omega)) HX.out
      · rw [ByteArray.size_append, HJ.out]; show 1 + j = j + 1; omega
      · refine pow_bound j n ?_ HNN.out
        have h1 := HX.out
        have h2 : 10 ≤ x := by have := HQ.out; have := HZ.out; omega
        exact Nat.le_trans (by rw [Nat.pow_succ, Nat.mul_comm]; exact Nat.mul_le_mul_right _ h2) h1
      · rw [← HT.out, dec_step x (by have := HQ.out; have := HZ.out; omega), ← HQ.out, ← HR.out, ← HBB.out]
        simp [bl, ByteArray.data_append]
      · simp only [intOf]
        have := HQ.out
        have := HZ.out
        omega
end Go.Proofs.YtjoechkdmdinoaaGreatDoor
namespace Go.Proofs.YtjoechkdmdinoaaGreatDoor
open Go.RowKit
set_option linter.unusedVariables false
set_option linter.unusedSimpArgs false
/-- a digit of base sixteen. -/
def hxD (d : Nat) : UInt8 := UInt8.ofNat (if d < 10 then 48 + d else 87 + d)
def hxL (l : List UInt8) : List UInt8 := l.flatMap fun b => [hxD (b.toNat / 16), hxD (b.toNat % 16)]
theorem hxL_snoc (l : List UInt8) (b : UInt8) : hxL (l ++ [b]) = hxL l ++ [hxD (b.toNat / 16), hxD (b.toNat % 16)] := by simp [hxL]
theorem hxL_length (l : List UInt8) : (hxL l).length = 2 * l.length := by
  induction l with
  | nil => rfl
  | cons b l ih => unfold hxL at ih ⊢; rw [List.flatMap_cons, List.length_append, ih]; simp; omega
set_option maxRecDepth 100000 in
set_option maxHeartbeats 4000000 in
theorem rdigit_any (d : Nat) (w : World) (hd : d < 16) : Calls Tryz.prog 59 #[.int .i64 (d : Int)] w fun e w' => e = .returned (.string ⟨#[hxD d]⟩) ∧ Below w.heap.size w w' := by
  have hcv : ∀ (x : Nat) (W : World), x < 256 → (convert 77 9 (.slice (some ⟨W.heap.size, 0, none⟩) 1 1)).run Tryz.prog (W.alloc (.cells #[.int .u8 (x : Int)] 5)) = .ok (.string ⟨#[UInt8.ofNat x]⟩) (W.alloc (.cells #[.int .u8 (x : Int)] 5)) := by
    intro x W hx
    have h := conv_own (l := [UInt8.ofNat x]) 77 9 Tryz.underlying77 Tryz.underlying5 Tryz.underlying9 (World.ownsRow_lit (size := 1) (base := W.heap.size) W #[.int .u8 ((UInt8.ofNat x).toNat : Int)] 1 (Nat.le_refl _) (by unfold maxLen; omega) rfl)
    rw [show (UInt8.ofNat x).toNat = x by rw [UInt8.toNat_ofNat']; omega] at h
    exact h
  by_cases h10 : d < 10
  · have hx : hxD d = UInt8.ofNat (48 + d) := by unfold hxD; rw [if_pos h10]
    have hcv := fun W => hcv (48 + d) W (by omega)
    rw [show ((48 + d : Nat) : Int) = 48 + (d : Int) by omega, ← hx] at hcv
    generalize hxD d = bb at *
    have h1 : IntKind.i64.wrap (48 + (d : Int)) = 48 + (d : Int) := wi64 _ (by omega) (by omega)
    have h2 : IntKind.u8.wrap (48 + (d : Int)) = 48 + (d : Int) := wraps_u8 _ (by omega) (by omega)
    have hbx := bal (Below.refl w.heap.size w) (.cells #[.int .u8 (48 + (d : Int))] 5)
    have g : (d : Int) < 10 := by omega
    have HBX := Lib.hid hbx
    clear hbx
    clear hx h10
    go_enter Tryz.func59, Tryz.ntmps59
    go_wp2_with fail
    go_ret
    exact ⟨rfl, HBX.out⟩
  · have hx : hxD d = UInt8.ofNat (87 + d) := by unfold hxD; rw [if_neg h10]
    have hcv := fun W => hcv (87 + d) W (by omega)
    rw [show ((87 + d : Nat) : Int) = 87 + (d : Int) by omega, ← hx] at hcv
    generalize hxD d = bb at *
    have h1 : IntKind.i64.wrap (87 + (d : Int)) = 87 + (d : Int) := wi64 _ (by omega) (by omega)
    have h2 : IntKind.u8.wrap (87 + (d : Int)) = 87 + (d : Int) := wraps_u8 _ (by omega) (by omega)
    have hbx := bal (Below.refl w.heap.size w) (.cells #[.int .u8 (87 + (d : Int))] 5)
    have g : ¬ (d : Int) < 10 := by omega
    have HBX := Lib.hid hbx
    clear hbx
    clear hx h10
    go_enter Tryz.func59, Tryz.ntmps59
    go_wp2_with fail
    go_ret
    exact ⟨rfl, HBX.out⟩
end Go.Proofs.YtjoechkdmdinoaaGreatDoor
namespace Go.Proofs.YtjoechkdmdinoaaGreatDoor
open Go.RowKit
set_option linter.unusedVariables false
set_option linter.unusedSimpArgs false
set_option maxRecDepth 100000 in
set_option maxHeartbeats 4000000 in
theorem rhex_any (b : ByteArray) (w : World) (hb : b.size ≤ 1000000) : Calls Tryz.prog 23 #[.string b] w fun e w' => e = .returned (.string ⟨(hxL (bl b)).toArray⟩) ∧ Below w.heap.size w w' := by
  have kd := fun (d : Nat) (w : World) (h : d < 16) => rdigit_any d w h
  obtain ⟨E, hE⟩ : ∃ E, E = hxL (bl b) := ⟨_, rfl⟩
  rw [← hE]
  obtain ⟨n, hn⟩ : ∃ n, n = b.size := ⟨_, rfl⟩
  have KD := Lib.hid kd
  have HE := Lib.hid hE
  clear kd hE
  go_enter Tryz.func23, Tryz.ntmps23
  go_wp2_with fail
  go_loopw [3, 4] (fun sv iv wr => ∃ (k : Nat) (T : ByteArray), sv = .string T ∧ iv = .int .i64 (k : Int) ∧ k ≤ b.size ∧ T.size = 2 * k ∧ Hid (bl T = hxL ((bl b).take k)) ∧ Hid (Below w.heap.size w wr)) (fun _ iv _ => b.size - (intOf iv).toNat)
  case atStart => exact ⟨0, ⟨#[]⟩, rfl, rfl, Nat.zero_le _, rfl, Lib.hid (by simp [bl, hxL]), Lib.hid (Below.refl _ _)⟩
  case round =>
    obtain ⟨k, T, rfl, rfl, hk, hT, HT, HB⟩ := hrel
    by_cases hlt : k < b.size
    · obtain ⟨c, hc⟩ := at_some (bl b) k (by rw [bl_length]; exact hlt)
      have X := atB_of b k c hc
      have hstep : hxL ((bl b).take (k + 1)) = hxL ((bl b).take k) ++ [hxD (c.toNat / 16), hxD (c.toNat % 16)] := by
        rw [List.take_add_one, hc, Option.toList_some, hxL_snoc]
      have hcl := c.toNat_lt
      obtain ⟨x, hx⟩ : ∃ x, x = c.toNat := ⟨_, rfl⟩
      rw [← hx] at hcl hstep
      have hq : (x : Int).tdiv 16 = ((x / 16 : Nat) : Int) := rfl
      have hr : (x : Int).tmod 16 = ((x % 16 : Nat) : Int) := rfl
      have hq16 : x / 16 < 16 := by omega
      have hr16 : x % 16 < 16 := by omega
      have X' : ∀ h, ((b[k]'h).toNat : Int) = (x : Int) := fun h => by rw [X h, hx]
      obtain ⟨q, hqq⟩ : ∃ q, q = x / 16 := ⟨_, rfl⟩
      obtain ⟨r, hrr⟩ : ∃ r, r = x % 16 := ⟨_, rfl⟩
      rw [← hqq] at hq hq16 hstep
      rw [← hrr] at hr hr16 hstep
      have kq : ∀ w', Below w.heap.size w w' → Calls Tryz.prog 59 #[.int .i64 (q : Int)] w' fun e w'' => e = .returned (.string ⟨#[hxD q]⟩) ∧ Below w.heap.size w w'' := fun w' hb' => (KD.out q w' hq16).mono fun e w'' z => ⟨z.1, bt hb' z.2⟩
      have kr : ∀ w', Below w.heap.size w w' → Calls Tryz.prog 59 #[.int .i64 (r : Int)] w' fun e w'' => e = .returned (.string ⟨#[hxD r]⟩) ∧ Below w.heap.size w w'' := fun w' hb' => (KD.out r w' hr16).mono fun e w'' z => ⟨z.1, bt hb' z.2⟩
      have hTs : T.size ≤ 2000000 := by omega
      have hwq : IntKind.i64.wrap (q : Int) = (q : Int) := wi64 _ (by omega) (by omega)
      have hk1 : k < b.size := hlt
      have h16 : IntKind.i64.wrap (x : Int) = (x : Int) := wi64 _ (by omega) (by omega)
      obtain ⟨y, hy⟩ : ∃ y : ByteArray, y = ⟨#[hxD q]⟩ := ⟨_, rfl⟩
      obtain ⟨z, hz⟩ : ∃ z : ByteArray, z = ⟨#[hxD r]⟩ := ⟨_, rfl⟩
      rw [← hy] at kq
      rw [← hz] at kr
      have y1 : y.size = 1 := by rw [hy]; rfl
      have z1 : z.size = 1 := by rw [hz]; rfl
      have hstep : hxL ((bl b).take (k + 1)) = hxL ((bl b).take k) ++ bl y ++ bl z := by rw [hstep, hy, hz]; simp [bl]
      have s1 : ¬ 9223372036854775807 < T.size + y.size := by omega
      have s3 : (T ++ y).size = T.size + y.size := ByteArray.size_append
      have s2 : ¬ 9223372036854775807 < (T ++ y).size + z.size := by omega
      have s2' : ¬ 9223372036854775807 < T.size + y.size + z.size := by omega
      have Y1 := Lib.hid y1
      have Z1 := Lib.hid z1
      clear y1 z1 s3
      have hbk := HB.out
      have hTT := Lib.hid hT
      have HST := Lib.hid hstep
      have KQ := Lib.hid kq
      have KR := Lib.hid kr
      clear kq kr
      clear hx hqq hrr hq16 hr16 hcl hc hstep hT hy hz X
      go_wp2_with fail
      go_region_held3 (fun _ => True) (first | trivial | go_keep)
        (first
          | (go_at_call_of 59 (Value.int .i64 (q : Int)); refine (KQ.out _ ?_).mono ?_; (first | exact hbk | exact bdn hbk _ | exact hbk.drew); clear hbk; rintro e w10 ⟨rfl, hbk⟩)
          | (go_at_call_of 59 (Value.int .i64 (r : Int)); refine (KR.out _ ?_).mono ?_; (first | exact hbk | exact bdn hbk _ | exact hbk.drew); clear hbk; rintro e w11 ⟨rfl, hbk⟩))
      all_goals
        go_wp2_with fail
        refine ⟨⟨k + 1, T ++ y ++ z, rfl, by go_num, by omega, ?_, Lib.hid ?_, Lib.hid hbk⟩, by simp [intOf]; omega⟩
        · rw [ByteArray.size_append, ByteArray.size_append, hTT.out, Y1.out, Z1.out]; omega
        · rw [HST.out, ← HT.out]; simp [bl, ByteArray.data_append]
    · have hkn : k = b.size := by omega
      have hg : ¬ (k : Int) < (b.size : Int) := by omega
      have e := HT.out
      rw [hkn, List.take_of_length_le (by rw [bl_length]; exact Nat.le_refl _), ← HE.out] at e
      have HEE := Lib.hid e
      clear e HT
      go_wp2_with fail
      go_ret
      exact ⟨ret_s (by apply bl_eq'; have := HEE.out; exact this), HB.out⟩
end Go.Proofs.YtjoechkdmdinoaaGreatDoor
namespace Go.Proofs.YtjoechkdmdinoaaGreatDoor
open Go.RowKit
set_option linter.unusedVariables false
set_option linter.unusedSimpArgs false
/-- the sixteen digits. -/
def dgL : List UInt8 := [48, 49, 50, 51, 52, 53, 54, 55, 56, 57, 97, 98, 99, 100, 101, 102]
/-- the value of a digit; -1: it is none. -/
def hxV (c : UInt8) : Int := Lib.indexByte dgL c
/-- is a byte a digit of base sixteen? -/
def hxB (c : UInt8) : Bool := (decide (48 ≤ c.toNat) && decide (c.toNat ≤ 57)) || (decide (97 ≤ c.toNat) && decide (c.toNat ≤ 102))
theorem byte_all {p : UInt8 → Prop} (h : ∀ i : Fin 256, p (UInt8.ofNat i.val)) (c : UInt8) : p c := by
  have := h ⟨c.toNat, c.toNat_lt⟩
  rwa [show UInt8.ofNat c.toNat = c from by apply UInt8.toNat_inj.1; rw [UInt8.toNat_ofNat']; have := c.toNat_lt; omega] at this
theorem hxV_cases (c : UInt8) : (hxB c = true ∧ 0 ≤ hxV c ∧ hxV c ≤ 15 ∧ hxD (hxV c).toNat = c) ∨ (hxB c = false ∧ hxV c = -1) :=
  byte_all (p := fun c => (hxB c = true ∧ 0 ≤ hxV c ∧ hxV c ≤ 15 ∧ hxD (hxV c).toNat = c) ∨ (hxB c = false ∧ hxV c = -1)) (by decide +kernel) c
theorem hxV_D (d : Nat) (h : d < 16) : hxV (hxD d) = (d : Int) := by
  have : ∀ i : Fin 16, hxV (hxD i.val) = (i.val : Int) := by decide +kernel
  exact this ⟨d, h⟩
/-- the bytes of digits, two and two. -/
def unhL : List UInt8 → Option (List UInt8)
  | [] => some []
  | [_] => none
  | a :: b :: r => if 0 ≤ hxV a ∧ 0 ≤ hxV b then (unhL r).map (UInt8.ofNat ((hxV a).toNat * 16 + (hxV b).toNat) :: ·) else none
theorem unhL_hxL (l : List UInt8) : unhL (hxL l) = some l := by
  induction l with
  | nil => rfl
  | cons b l ih =>
    have e : hxL (b :: l) = hxD (b.toNat / 16) :: hxD (b.toNat % 16) :: hxL l := by simp [hxL]
    have hb := b.toNat_lt
    rw [e, unhL, hxV_D _ (by omega), hxV_D _ (by omega), if_pos ⟨by omega, by omega⟩, ih]
    simp only [Option.map_some, Option.some.injEq, List.cons.injEq, and_true]
    apply UInt8.toNat_inj.1
    rw [UInt8.toNat_ofNat']
    omega
theorem hxL_unhL : ∀ (n : Nat) (l m : List UInt8), l.length ≤ n → unhL l = some m → hxL m = l ∧ 2 * m.length = l.length
  | _, [], m, _, h => by simp only [unhL, Option.some.injEq] at h; subst h; exact ⟨rfl, rfl⟩
  | _, [_], m, _, h => by simp [unhL] at h
  | 0, a :: b :: r, m, hn, h => by simp at hn
  | n + 1, a :: b :: r, m, hn, h => by
    rw [unhL] at h
    split at h
    · rename_i hv
      rw [Option.map_eq_some_iff] at h
      obtain ⟨q, hq, rfl⟩ := h
      obtain ⟨i1, i2⟩ := hxL_unhL n r q (by simp at hn; omega) hq
      rcases hxV_cases a with ⟨_, a0, a1, a2⟩ | ⟨_, a0⟩
      · rcases hxV_cases b with ⟨_, b0, b1, b2⟩ | ⟨_, b0⟩
        · refine ⟨?_, by simp; omega⟩
          have e : ∀ (x : UInt8), hxL (x :: q) = hxD (x.toNat / 16) :: hxD (x.toNat % 16) :: hxL q := fun x => by simp [hxL]
          rw [e, i1, UInt8.toNat_ofNat']
          obtain ⟨u, hu⟩ : ∃ u, u = (hxV a).toNat := ⟨_, rfl⟩
          obtain ⟨v, hv2⟩ : ∃ v, v = (hxV b).toNat := ⟨_, rfl⟩
          rw [← hu] at a2 ⊢
          rw [← hv2] at b2 ⊢
          have hu16 : u ≤ 15 := by omega
          have hv16 : v ≤ 15 := by omega
          rw [show (u * 16 + v) % 2 ^ 8 / 16 = u by omega, show (u * 16 + v) % 2 ^ 8 % 16 = v by omega, a2, b2]
        · omega
      · omega
    · cases h
theorem unhL_odd : ∀ (n : Nat) (l : List UInt8), l.length ≤ n → l.length % 2 = 1 → unhL l = none
  | _, [], _, h => by simp at h
  | _, [_], _, _ => rfl
  | 0, _ :: _ :: _, hn, _ => by simp at hn
  | n + 1, a :: b :: r, hn, h => by
    rw [unhL, unhL_odd n r (by simp at hn; omega) (by simp at h; omega)]
    split <;> rfl
/-- is a text digits of base sixteen, two and two? -/
def hexL (l : List UInt8) : Bool := l.all hxB && decide (l.length % 2 = 0)
theorem unhL_none : ∀ (n : Nat) (l : List UInt8), l.length ≤ n → unhL l = none → hexL l = false
  | _, [], _, h => by simp [unhL] at h
  | _, [_], _, _ => by simp [hexL]
  | 0, _ :: _ :: _, hn, _ => by simp at hn
  | n + 1, a :: b :: r, hn, h => by
    rw [unhL] at h
    unfold hexL
    split at h
    · rw [Option.map_eq_none_iff] at h
      have := unhL_none n r (by simp at hn; omega) h
      unfold hexL at this
      simp only [Bool.and_eq_false_iff, decide_eq_false_iff_not, List.length_cons] at this ⊢
      rcases this with h1 | h1
      · left; simp [List.all_cons, h1]
      · right; omega
    · rename_i hv
      simp only [Bool.and_eq_false_iff]
      left
      rcases hxV_cases a with ⟨_, a0, _⟩ | ⟨a0, _⟩
      · rcases hxV_cases b with ⟨_, b0, _⟩ | ⟨b0, _⟩
        · exact absurd ⟨a0, b0⟩ hv
        · simp [List.all_cons, b0]
      · simp [List.all_cons, a0]
/-- digits behind bytes that are read. -/
def unhA (acc l : List UInt8) : Option (List UInt8) := (unhL l).map (acc ++ ·)
theorem unhA_nil (acc : List UInt8) : unhA acc [] = some acc := by simp [unhA, unhL]
theorem unhA_step (acc : List UInt8) (a b : UInt8) (r : List UInt8) (ha : 0 ≤ hxV a) (hb : 0 ≤ hxV b) : unhA acc (a :: b :: r) = unhA (acc ++ [UInt8.ofNat ((hxV a).toNat * 16 + (hxV b).toNat)]) r := by
  unfold unhA
  rw [unhL, if_pos ⟨ha, hb⟩]
  cases unhL r with
  | none => rfl
  | some m => simp
theorem unhA_bad (acc : List UInt8) (a b : UInt8) (r : List UInt8) (h : ¬ (0 ≤ hxV a ∧ 0 ≤ hxV b)) : unhA acc (a :: b :: r) = none := by
  unfold unhA
  rw [unhL, if_neg h]
  rfl
/-- a byte in quotes. -/
def quB (c : UInt8) : List UInt8 := if c = 34 ∨ c = 92 then [92, c] else if c.toNat < 32 ∨ 126 < c.toNat then [92, 120, hxD (c.toNat / 16), hxD (c.toNat % 16)] else [c]
def quL (l : List UInt8) : List UInt8 := l.flatMap quB
def quT (l : List UInt8) : List UInt8 := [34] ++ quL l ++ [34]
theorem quL_snoc (l : List UInt8) (b : UInt8) : quL (l ++ [b]) = quL l ++ quB b := by simp [quL]
theorem quB_length (b : UInt8) : (quB b).length ≤ 4 := by unfold quB; split <;> (try split) <;> simp
theorem quL_length (l : List UInt8) : (quL l).length ≤ 4 * l.length := by
  induction l with
  | nil => simp [quL]
  | cons b l ih =>
    have := quB_length b
    unfold quL at ih ⊢
    rw [List.flatMap_cons, List.length_append, List.length_cons]
    omega
end Go.Proofs.YtjoechkdmdinoaaGreatDoor
namespace Go.Proofs.YtjoechkdmdinoaaGreatDoor
open Go.RowKit
set_option linter.unusedVariables false
set_option linter.unusedSimpArgs false
section
variable {P : Program} {ops : Array Oper} {o : Oper} {a : Act} {K : Act → World → Prop} {Q : Exit → Act → World → Prop} {E : Prop}
/-- append of some elements, as a step of a region that draws, in whatever world. -/
theorem step_pushX (hgd : o.guard = none) (s x : Operand) (t e : TypeId) (ho : o.op = .call { callee := .builtin .append, args := #[s, x], argTypes := #[t, t] }) (ht : P.underlying t = some (.slice e))
    (z : Value) (size bytes : Nat) (hi : (P.info? e).map (fun i => (i.zero, i.size, i.bytes)) = some (some z, size, bytes)) (hzs : z.cells.size = size) (hsz : 0 < size) (m : Nat)
    (X : World) (b B : Nat) (v : Value) (n : Nat) (cs : List Value) (hs : a.eval s = v) (hown : X.ownsRow B e size v n cs) (news : Array Value) (hnl : news.size = m * size) (h1 : ∀ u ∈ news.toList, u.oneCell' = true)
    (hnw : ∀ (j : Nat) u, news[j]? = some u → X.cell? ⟨b, j, none⟩ = some u)
    (hx : a.eval x = .slice (some ⟨b, 0, none⟩) m m) (hm : m ≤ 1000) (hlen : n < 70368744177664) (hby : (n + m) * bytes ≤ 140737488355328) (hB : B ≤ X.heap.size)
    (h : ∀ v' w', w'.ownsRow B e size v' (n + m) (cs ++ news.toList) → Below B X w' → K (a.put o.dst v') w') :
    if Region.wanted o (yielded ops a.tmps) = true then Oper.wp P o a X K Q else E := by
  have hw : Region.wanted o (yielded ops a.tmps) = true := by simp [Region.wanted, hgd]
  rw [if_pos hw]
  obtain ⟨i0, hi, hz0, hz1, hz2⟩ := info_parts hi
  have hnw' : ∀ j u, news.toList[j]? = some u → X.cell? ((⟨b, 0, none⟩ : Addr).add j) = some u := by
    intro j u hj
    have ea : (⟨b, 0, none⟩ : Addr).add j = ⟨b, j, none⟩ := by
      by_cases h0 : j = 0
      · subst h0; rfl
      · simp [Addr.add, h0]
    rw [ea]
    exact hnw j u (by simpa using hj)
  obtain ⟨v', w', hrun, r1, r2, _⟩ := run_append_own (P := P) X B t o.type e i0 z size bytes ht hi hz0 hz1 hz2 hzs hsz v n cs hown ⟨b, 0, none⟩ m m news.toList (by simp [hnl]) hnw' h1 (by unfold maxLen; omega) hby hB
  unfold Oper.wp
  simp [execOp, ho, resolve, invoke, builtin, hs, hx, hrun, Result.andThen]
  exact h v' w' r1 (orow_below hown r2 hB)
end
theorem hx_at (d : Nat) (h : d < 16) : ∀ hh, ((⟨#[48, 49, 50, 51, 52, 53, 54, 55, 56, 57, 97, 98, 99, 100, 101, 102]⟩ : ByteArray)[d]'hh) = hxD d := by
  intro hh
  have : ∀ d : Fin 16, ((⟨#[48, 49, 50, 51, 52, 53, 54, 55, 56, 57, 97, 98, 99, 100, 101, 102]⟩ : ByteArray)[d.val]'(d.isLt)) = hxD d.val := by decide
  exact this ⟨d, h⟩
set_option maxRecDepth 100000 in
set_option maxHeartbeats 8000000 in
theorem phex_any (b : ByteArray) (w : World) (hb : b.size ≤ 1000000) : Calls Tryz.prog 21 #[.string b] w fun e w' => e = .returned (.string ⟨(hxL (bl b)).toArray⟩) ∧ Below w.heap.size w w' := by
  obtain ⟨i0, hi, hz0, hz1, hz2⟩ := info_parts infoByte
  obtain ⟨E, hE⟩ : ∃ E, E = hxL (bl b) := ⟨_, rfl⟩
  rw [← hE]
  have HE := Lib.hid hE
  clear hE
  have hw : IntKind.i64.wrap (2 * (b.size : Int)) = ((2 * b.size : Nat) : Int) := by rw [wi64 _ (by omega) (by omega)]; omega
  go_enter Tryz.func21, Tryz.ntmps21
  go_wp2_with (refine wpList_make_own _ rfl _ _ 77 rfl _ 5 i0 (.int .u8 0) 1 Tryz.underlying77 hi hz0 hz1 .i64 .i64 ((2 * b.size : Nat) : Int) (2 * b.size) rfl rfl rfl (by rw [hz2]; omega) (by unfold maxLen; omega) (Nat.le_refl _) ?_; intro W hown hgrow)
  have hbel : Below w.heap.size w W := (Below.refl _ _).grown hgrow (Nat.le_refl _) (by intro k hk; cases hk)
  clear hgrow
  go_loopw [3, 11] (fun hv iv wr => ∃ (k : Nat), iv = .int .i64 (k : Int) ∧ k ≤ b.size ∧ wr.ownsRow w.heap.size 5 1 hv (2 * k) (bcells (hxL ((bl b).take k))) ∧ Below w.heap.size w wr) (fun _ iv _ => b.size - (intOf iv).toNat)
  case atStart => exact ⟨0, rfl, Nat.zero_le _, hown, hbel⟩
  case round =>
    clear hown hbel
    obtain ⟨k, rfl, hk, hown, hbel⟩ := hrel
    by_cases hlt : k < b.size
    · obtain ⟨c, hc⟩ := at_some (bl b) k (by rw [bl_length]; exact hlt)
      have X := atB_of b k c hc
      obtain ⟨x, hx⟩ : ∃ x, x = c.toNat := ⟨_, rfl⟩
      have X' : ∀ h, ((b[k]'h).toNat : Int) = (x : Int) := fun h => by rw [X h, hx]
      have hx8 : x < 256 := by have := c.toNat_lt; omega
      have hg : (k : Int) < (b.size : Int) := by omega
      have e2 : bits .and .u8 (x : Int) 15 = (x : Int) % 16 := by
        have : ∀ x : Fin 256, bits .and .u8 (x.val : Int) 15 = (x.val : Int) % 16 := by decide +kernel
        exact this ⟨x, hx8⟩
      have hstep : hxL ((bl b).take (k + 1)) = hxL ((bl b).take k) ++ [hxD (x / 16), hxD (x % 16)] := by
        rw [List.take_add_one, hc, Option.toList_some, hxL_snoc, ← hx]
      have t0 : ((x : Int) / 16).toNat = x / 16 := by omega
      have t1 : ((x : Int) % 16).toNat = x % 16 := by omega
      have x0 := hx_at (x / 16) (by omega)
      have x1 := hx_at (x % 16) (by omega)
      have y0 : (0 : Int) ≤ (x : Int) / 16 ∧ (x : Int) / 16 < 16 := by omega
      have y1 : (0 : Int) ≤ (x : Int) % 16 ∧ (x : Int) % 16 < 16 := by omega
      obtain ⟨y, hy⟩ : ∃ y, y = hxD (x / 16) := ⟨_, rfl⟩
      obtain ⟨z, hz⟩ : ∃ z, z = hxD (x % 16) := ⟨_, rfl⟩
      rw [← hy] at x0 hstep
      rw [← hz] at x1 hstep
      have HO := Lib.hid hown
      have HST := Lib.hid hstep
      have HB := Lib.hid hbel
      have hsz := hbel.size
      clear hc X hx hy hz hstep hown hbel
      go_wp2_with fail
      have hZ := (bal (Below.refl wr.heap.size wr) (.cells #[.int .u8 (y.toNat : Int), .int .u8 (z.toNat : Int)] 5)).drew
      have HOZ := Lib.hid (orow_bel HO.out hZ)
      have hZs := hZ.size
      have HZ := Lib.hid hZ
      clear hZ
      go_region_held3 (fun _ => True) (first | trivial | go_keep)
        (first
          | (refine step_pushX rfl _ _ 77 5 rfl Tryz.underlying77 (.int .u8 0) 1 1 infoByte rfl (by decide) 2 _ wr.heap.size w.heap.size u3 (2 * k) (bcells (hxL ((bl b).take k))) rfl HOZ.out #[.int .u8 (y.toNat : Int), .int .u8 (z.toNat : Int)] rfl (by simp [Value.oneCell']) (by intro j u hj; exact (World.cell?_alloc_new _ _ _ _).trans hj) rfl (by decide) (by omega) (by omega) (by omega) ?_; intro v' w4 hown4 hb4))
      all_goals
        go_wp2_with fail
        refine ⟨⟨k + 1, by go_num, by omega, ?_, HB.out.trans ((HZ.out.mono hsz).trans hb4)⟩, by simp [intOf]; omega⟩
        rw [HST.out, bcells_append]
        exact hown4
    · have hkn : k = b.size := by omega
      have hg : ¬ (k : Int) < (b.size : Int) := by omega
      rw [hkn, List.take_of_length_le (by rw [bl_length]; exact Nat.le_refl _), ← HE.out] at hown
      have hcv := conv_own (P := Tryz.prog) 77 9 Tryz.underlying77 Tryz.underlying5 Tryz.underlying9 hown
      have HB := Lib.hid hbel
      clear hown hbel
      go_wp2_with fail
      go_ret
      exact ⟨rfl, HB.out⟩
end Go.Proofs.YtjoechkdmdinoaaGreatDoor
namespace Go.Proofs.YtjoechkdmdinoaaGreatDoor
open Go.RowKit
set_option linter.unusedVariables false
set_option linter.unusedSimpArgs false
/-- is a byte an end of a line? -/
def eolB (c : UInt8) : Bool := c == 10 || c == 13
/-- the end of the line that begins at a place. -/
def nxE (l : List UInt8) (a : Nat) : Nat := a + ((l.drop a).takeWhile (fun c => !eolB c)).length
/-- behind the end of a line whose text ends at a place. -/
def nxB (l : List UInt8) (e : Nat) : Nat := if e < l.length then (if l[e]? = some 13 ∧ l[e + 1]? = some 10 then e + 2 else e + 1) else e
theorem drop_atI (l : List UInt8) (k : Nat) (c : UInt8) (h : l[k]? = some c) : l.drop k = c :: l.drop (k + 1) := by
  obtain ⟨h1, h2⟩ := List.getElem?_eq_some_iff.1 h
  rw [List.drop_eq_getElem_cons h1, h2]
theorem nxE_step (l : List UInt8) (e : Nat) (c : UInt8) (h : l[e]? = some c) (hc : eolB c = false) : nxE l e = nxE l (e + 1) := by
  unfold nxE
  rw [drop_atI l e c h, List.takeWhile_cons, hc]
  simp
  omega
theorem nxE_stop (l : List UInt8) (e : Nat) (c : UInt8) (h : l[e]? = some c) (hc : eolB c = true) : nxE l e = e := by
  unfold nxE
  rw [drop_atI l e c h, List.takeWhile_cons, hc]
  simp
theorem nxE_end (l : List UInt8) : nxE l l.length = l.length := by
  unfold nxE
  rw [List.drop_length]
  rfl
theorem nxE_ge (l : List UInt8) (a : Nat) : a ≤ nxE l a := Nat.le_add_right _ _
theorem nxE_le (l : List UInt8) (a : Nat) (h : a ≤ l.length) : nxE l a ≤ l.length := by
  unfold nxE
  have h1 := (List.takeWhile_sublist (fun c => !eolB c) (l := l.drop a)).length_le
  rw [List.length_drop] at h1
  omega
theorem nxE_at (l : List UInt8) : ∀ (n a : Nat), l.length - a ≤ n → nxE l a < l.length → ∃ c, l[nxE l a]? = some c ∧ eolB c = true
  | 0, a, hn, h => by have := nxE_ge l a; omega
  | n + 1, a, hn, h => by
    by_cases ha : a < l.length
    · have hc : l[a]? = some (l[a]'ha) := List.getElem?_eq_getElem ha
      cases he : eolB (l[a]'ha) with
      | true => rw [nxE_stop l a _ hc he]; exact ⟨_, hc, he⟩
      | false =>
        rw [nxE_step l a _ hc he] at h ⊢
        exact nxE_at l n (a + 1) (by omega) h
    · have := nxE_ge l a; omega
theorem nxB_ge (l : List UInt8) (e : Nat) : e ≤ nxB l e := by unfold nxB; split <;> (try split) <;> omega
theorem nxB_gt (l : List UInt8) (e : Nat) (h : e < l.length) : e < nxB l e := by unfold nxB; rw [if_pos h]; split <;> omega
theorem nxB_le (l : List UInt8) (e : Nat) (h : e ≤ l.length) : nxB l e ≤ l.length := by
  unfold nxB
  split
  · split
    · rename_i h1 h2
      have := (List.getElem?_eq_some_iff.1 h2.2).1
      omega
    · omega
  · exact h
/-- the lines from a place on: where each begins, where its text ends, where it ends. -/
def lnP (l : List UInt8) : Nat → Nat → List (Nat × Nat × Nat)
  | 0, _ => []
  | n + 1, a => if a < l.length then (a, nxE l a, nxB l (nxE l a)) :: lnP l n (nxB l (nxE l a)) else []
def lnF (l : List UInt8) (a : Nat) : List (Nat × Nat × Nat) := lnP l (l.length + 1 - a) a
theorem nx_gt (l : List UInt8) (a : Nat) (h : a < l.length) : a < nxB l (nxE l a) := by
  have h1 := nxE_ge l a
  have h2 := nxE_le l a (by omega)
  by_cases h3 : nxE l a < l.length
  · have := nxB_gt l _ h3; omega
  · have := nxB_ge l (nxE l a); omega
theorem lnP_fuel (l : List UInt8) : ∀ (n m a : Nat), l.length + 1 - a ≤ n → l.length + 1 - a ≤ m → lnP l n a = lnP l m a
  | 0, 0, a, _, _ => rfl
  | 0, m + 1, a, h1, _ => by rw [lnP, lnP, if_neg (by omega)]
  | n + 1, 0, a, _, h2 => by rw [lnP, lnP, if_neg (by omega)]
  | n + 1, m + 1, a, h1, h2 => by
    rw [lnP, lnP]
    split
    · rename_i h
      have := nx_gt l a h
      rw [lnP_fuel l n m _ (by omega) (by omega)]
    · rfl
theorem lnF_cons (l : List UInt8) (a : Nat) (h : a < l.length) : lnF l a = (a, nxE l a, nxB l (nxE l a)) :: lnF l (nxB l (nxE l a)) := by
  have h1 := nx_gt l a h
  unfold lnF
  obtain ⟨n, hn⟩ : ∃ n, l.length + 1 - a = n + 1 := ⟨l.length - a, by omega⟩
  rw [hn, lnP, if_pos h, lnP_fuel l n (l.length + 1 - nxB l (nxE l a)) _ (by omega) (by omega)]
theorem lnF_end (l : List UInt8) (a : Nat) (h : ¬ a < l.length) : lnF l a = [] := by
  unfold lnF
  cases hn : l.length + 1 - a with
  | zero => rfl
  | succ n => rw [lnP, if_neg h]
/-- the first place at which no end of a line stands. -/
def ld0 (l : List UInt8) : Nat := (l.takeWhile eolB).length
/-- the first line that isn't empty, and the next one. -/
def leadM (l : List UInt8) : List UInt8 × List UInt8 := ((l.drop (ld0 l)).take (nxE l (ld0 l) - ld0 l), (l.drop (nxB l (nxE l (ld0 l)))).take (nxE l (nxB l (nxE l (ld0 l))) - nxB l (nxE l (ld0 l))))
def txt (l : List UInt8) (p : Nat × Nat × Nat) : List UInt8 := (l.drop p.1).take (p.2.1 - p.1)
/-- the lines of a text as the reference looks for a kind. -/
def leadR (l : List UInt8) : List (Nat × Nat × Nat) → Option (List UInt8 × List UInt8)
  | [] => none
  | p :: r => if p.1 = p.2.1 then leadR l r else some (txt l p, match r with | [] => [] | q :: _ => txt l q)
theorem ld0_le (l : List UInt8) : ld0 l ≤ l.length := (List.takeWhile_sublist eolB).length_le
theorem take_while_at (p : UInt8 → Bool) : ∀ (l : List UInt8) (k : Nat), k < (l.takeWhile p).length → ∃ c, l[k]? = some c ∧ p c = true
  | [], k, h => by simp at h
  | c :: l, k, h => by
    rw [List.takeWhile_cons] at h
    cases hc : p c with
    | false => rw [hc] at h; simp at h
    | true =>
      rw [hc] at h
      cases k with
      | zero => exact ⟨c, rfl, hc⟩
      | succ k => simp at h; simpa using take_while_at p l k h
theorem take_while_end (p : UInt8 → Bool) : ∀ (l : List UInt8) (c : UInt8), l[(l.takeWhile p).length]? = some c → p c = false
  | [], c, h => by simp at h
  | d :: l, c, h => by
    rw [List.takeWhile_cons] at h
    cases hd : p d with
    | false => rw [hd] at h; simp at h; subst h; exact hd
    | true => rw [hd] at h; simp at h; exact take_while_end p l c h
theorem leadR_eq (l : List UInt8) : ∀ (n a : Nat), l.length - a ≤ n → a ≤ ld0 l → leadR l (lnF l a) = if ld0 l < l.length then some (leadM l) else none
  | n, a, hn, ha => by
    have h0 := ld0_le l
    by_cases hal : a < l.length
    · rw [lnF_cons l a hal]
      unfold leadR
      simp only
      by_cases he : a = ld0 l
      · have hnot : ¬ a = nxE l a := by
          have hc : l[a]? = some (l[a]'hal) := List.getElem?_eq_getElem hal
          have := take_while_end eolB l (l[a]'hal) (by rw [show (l.takeWhile eolB).length = a from he.symm]; exact hc)
          rw [nxE_step l a _ hc this]
          have := nxE_ge l (a + 1)
          omega
        rw [if_neg hnot, if_pos (by omega)]
        unfold leadM txt
        rw [← he]
        congr 2
        by_cases hb : nxB l (nxE l a) < l.length
        · rw [lnF_cons _ _ hb]
        · rw [lnF_end _ _ hb]
          have : l.drop (nxB l (nxE l a)) = [] := List.drop_eq_nil_of_le (by omega)
          rw [this]
          simp
      · obtain ⟨c, hc, hcc⟩ := take_while_at eolB l a (by show a < ld0 l; omega)
        have hs := nxE_stop l a c hc hcc
        rw [hs, if_pos rfl]
        have hb : nxB l a ≤ ld0 l := by
          unfold nxB
          rw [if_pos hal]
          split
          · rename_i h2
            by_cases h3 : a + 1 < ld0 l
            · omega
            · have h4 : a + 1 = ld0 l := by omega
              have := take_while_end eolB l 10 (by rw [show (l.takeWhile eolB).length = a + 1 from h4.symm]; exact h2.2)
              exact absurd this (by decide)
          · omega
        have hg := nxB_gt l a hal
        match n, hn with
        | 0, hn => omega
        | n + 1, hn => exact leadR_eq l n _ (by omega) hb
    · rw [lnF_end l a hal, if_neg (by omega)]
      rfl
/-- digits, capitals, forms. -/
def dgB (c : UInt8) : Bool := decide (48 ≤ c.toNat) && decide (c.toNat ≤ 57)
def cpB (c : UInt8) : Bool := dgB c || (decide (65 ≤ c.toNat) && decide (c.toNat ≤ 90))
def dgsL (l : List UInt8) : Bool := l.all dgB && !l.isEmpty
def cpsL (l : List UInt8) : Bool := l.all cpB && !l.isEmpty
def likeL : List UInt8 → List UInt8 → Bool
  | [], [] => true
  | c :: l, f :: g => (if f = 48 then dgB c else c == f) && likeL l g
  | _, _ => false
theorem likeL_length : ∀ {l g : List UInt8}, likeL l g = true → l.length = g.length
  | [], [], _ => rfl
  | c :: l, f :: g, h => by
    simp only [likeL, Bool.and_eq_true] at h
    simp [likeL_length h.2]
  | [], _ :: _, h => by simp [likeL] at h
  | _ :: _, [], h => by simp [likeL] at h
theorem likeL_ne : ∀ {l g : List UInt8}, l.length ≠ g.length → likeL l g = false := fun {l g} h => by
  cases hc : likeL l g with
  | false => rfl
  | true => exact absurd (likeL_length hc) h
theorem likeL_append : ∀ (l1 g1 l2 g2 : List UInt8), l1.length = g1.length → likeL (l1 ++ l2) (g1 ++ g2) = (likeL l1 g1 && likeL l2 g2)
  | [], [], l2, g2, _ => by simp [likeL]
  | c :: l1, f :: g1, l2, g2, h => by
    simp only [List.cons_append, likeL]
    rw [likeL_append l1 g1 l2 g2 (by simpa using h), Bool.and_assoc]
  | [], _ :: _, _, _, h => by simp at h
  | _ :: _, [], _, _, h => by simp at h
/-- a sheet's line: the word, behind blanks. -/
def blB (c : UInt8) : Bool := c == 32 || c == 9
def azB (c : UInt8) : Bool := decide (65 ≤ c.toNat) && decide (c.toNat ≤ 90)
def wdI (l : List UInt8) : Nat := (l.takeWhile blB).length
def wdJ (l : List UInt8) : Nat := wdI l + ((l.drop (wdI l)).takeWhile azB).length
def wdW (l : List UInt8) : List UInt8 := (l.drop (wdI l)).take (wdJ l - wdI l)
/-- a value: without quotes, or in two. -/
def valN (l : List UInt8) : Nat := l.count 34
def valOk (l : List UInt8) : Bool := if l.contains 34 then decide (2 ≤ l.length) && (l.head? == some 34) && (l.getLast? == some 34) && !((l.drop 1).take (l.length - 2)).contains 34 else !l.isEmpty
def valR (l : List UInt8) : Bool := (l.count 34 == 0 && !l.isEmpty) || (l.count 34 == 2 && l.head? == some 34 && l.getLast? == some 34)
def wordsL (l : List UInt8) : Bool := match l with
  | [] => false
  | c :: r => cpB c && r.all (fun c => c == 32 || cpB c)
/-- the last blank. -/
def lastB (l : List UInt8) : Option Nat := (List.range l.length).reverse.find? fun k => l[k]? == some 32
theorem tw_len (p : UInt8 → Bool) : ∀ (l : List UInt8) (k : Nat), (l.take k).all p = true → k ≤ l.length → (∀ c, l[k]? = some c → p c = false) → (l.takeWhile p).length = k
  | [], k, _, hk, _ => by simp at hk; subst hk; rfl
  | c :: l, 0, _, _, hn => by
    rw [List.takeWhile_cons, hn c rfl]; rfl
  | c :: l, k + 1, ha, hk, hn => by
    simp only [List.take_succ_cons, List.all_cons, Bool.and_eq_true] at ha
    rw [List.takeWhile_cons, ha.1]
    simp only [if_true, List.length_cons]
    rw [tw_len p l k ha.2 (by simpa using hk) fun c hc => hn c (by simpa using hc)]
theorem all_step (p : UInt8 → Bool) (l : List UInt8) (k : Nat) (x : UInt8) (hx : l[k]? = some x) (ha : (l.take k).all p = true) : (p x = true → (l.take (k + 1)).all p = true) ∧ (p x = false → l.all p = false) := by
  refine ⟨fun h => ?_, fun h => ?_⟩
  · rw [List.take_add_one, hx, List.all_append, ha]
    simp [h]
  · have hm := List.mem_of_getElem? hx
    cases hc : l.all p with
    | false => rfl
    | true => rw [List.all_eq_true.1 hc x hm] at h; cases h
theorem all_end (p : UInt8 → Bool) (l : List UInt8) (k : Nat) (hk : l.length ≤ k) (ha : (l.take k).all p = true) : l.all p = true := by rwa [List.take_of_length_le hk] at ha
/-- forms, byte by byte. -/
theorem likeL_iff : ∀ (l g : List UInt8), l.length = g.length → likeL l g = (List.range l.length).all fun k => match l[k]?, g[k]? with | some c, some f => if f = 48 then dgB c else c == f | _, _ => true
  | [], [], _ => rfl
  | c :: l, f :: g, h => by
    rw [likeL, likeL_iff l g (by simpa using h), List.length_cons, List.range_succ_eq_map, List.all_cons, List.all_map]
    rfl
  | [], _ :: _, h => by simp at h
  | _ :: _, [], h => by simp at h
theorem range_step (q : Nat → Bool) (n k : Nat) (hk : k < n) (ha : (List.range k).all q = true) : (q k = true → (List.range (k + 1)).all q = true) ∧ (q k = false → (List.range n).all q = false) := by
  refine ⟨fun h => ?_, fun h => ?_⟩
  · rw [List.range_succ, List.all_append, ha]; simp [h]
  · cases hc : (List.range n).all q with
    | false => rfl
    | true => rw [List.all_eq_true.1 hc k (List.mem_range.2 hk)] at h; cases h
end Go.Proofs.YtjoechkdmdinoaaGreatDoor
namespace Go.Proofs.YtjoechkdmdinoaaGreatDoor
open Go.RowKit
set_option linter.unusedVariables false
set_option linter.unusedSimpArgs false
theorem hxIndex_any (c : UInt8) (w : World) :
    Calls Tryz.prog 58 #[.string ⟨#[48, 49, 50, 51, 52, 53, 54, 55, 56, 57, 97, 98, 99, 100, 101, 102]⟩, .int .u8 (c.toNat : Int)] w fun e w' => e = .returned (.int .i64 (hxV c)) ∧ w = w' := by
  refine (Tryz.strings_IndexByte _ _ w).mono fun e w' h => ?_
  refine ⟨?_, h.2.symm⟩
  rw [h.1]
  unfold hxV dgL
  simp
theorem or16 (p q : Nat) (hp : p < 16) (hq : q < 16) : bits .or .i64 ((p : Int) * 16) (q : Int) = ((p * 16 + q : Nat) : Int) := by
  have : ∀ p q : Fin 16, bits .or .i64 ((p.val : Int) * 16) (q.val : Int) = ((p.val * 16 + q.val : Nat) : Int) := by decide +kernel
  exact this ⟨p, hp⟩ ⟨q, hq⟩
/-- what Unhex answers. -/
def unV (l : List UInt8) : Value := match unhL l with | some m => .tuple #[.string ⟨m.toArray⟩, .bool true] | none => .tuple #[.string ⟨#[]⟩, .bool false]
set_option maxRecDepth 100000 in
set_option maxHeartbeats 8000000 in
theorem punhex_any (s : ByteArray) (w : World) (hs : s.size ≤ 1000000) : Calls Tryz.prog 22 #[.string s] w fun e w' => e = .returned (unV (bl s)) ∧ Below w.heap.size w w' := by
  obtain ⟨i0, hi, hz0, hz1, hz2⟩ := info_parts infoByte
  have HL : Hid ((bl s).length = s.size) := bl_length s
  obtain ⟨R, hR⟩ : ∃ R, R = unhL (bl s) := ⟨_, rfl⟩
  obtain ⟨V, hV⟩ : ∃ V, V = unV (bl s) := ⟨_, rfl⟩
  have HV0 : Hid (R = none → V = .tuple #[.string ⟨#[]⟩, .bool false]) := fun h => by rw [hV]; unfold unV; rw [← hR, h]
  have HV1 : Hid (∀ m, R = some m → V = .tuple #[.string ⟨m.toArray⟩, .bool true]) := fun m h => by rw [hV]; unfold unV; rw [← hR, h]
  rw [← hV]
  have HR := Lib.hid hR
  clear hR hV
  have hm : (s.size : Int).tmod 2 = ((s.size % 2 : Nat) : Int) := rfl
  have hd : (s.size : Int).tdiv 2 = ((s.size / 2 : Nat) : Int) := rfl
  by_cases ho : s.size % 2 = 1
  · have hr : R = none := by rw [HR.out, unhL_odd _ _ (Nat.le_refl _) (by rw [HL.out]; exact ho)]
    rw [ho] at hm
    rw [HV0.out hr]
    clear ho hr hd
    go_enter Tryz.func22, Tryz.ntmps22
    go_wp2_with fail
    go_ret2
    exact ⟨rfl, Below.refl _ _⟩
  · have he : s.size % 2 = 0 := by omega
    rw [he] at hm
    obtain ⟨n, hn⟩ : ∃ n, n = s.size / 2 := ⟨_, rfl⟩
    have HN : Hid (s.size = 2 * n) := by show s.size = 2 * n; omega
    have hn1 : n ≤ 1000000 := by omega
    rw [← hn] at hd
    have hwd : IntKind.i64.wrap (n : Int) = (n : Int) := wi64 _ (by omega) (by omega)
    clear ho he hn
    go_enter Tryz.func22, Tryz.ntmps22
    go_wp2_with (refine wpList_make_own _ rfl _ _ 77 rfl _ 5 i0 (.int .u8 0) 1 Tryz.underlying77 hi hz0 hz1 .i64 .i64 (n : Int) n rfl rfl rfl (by rw [hz2]; omega) (by unfold maxLen; omega) (Nat.le_refl _) ?_; intro W hown hgrow)
    have hbel : Below w.heap.size w W := (Below.refl _ _).grown hgrow (Nat.le_refl _) (by intro k hk; cases hk)
    clear hgrow
    go_loopw [4, 5] (fun bv iv wr => ∃ (k : Nat) (acc : List UInt8), iv = .int .i64 (2 * (k : Int)) ∧ k ≤ n ∧ acc.length = k ∧ Hid (unhA acc ((bl s).drop (2 * k)) = R) ∧ wr.ownsRow w.heap.size 5 1 bv k (bcells acc) ∧ Below w.heap.size w wr) (fun _ iv _ => (2 * n - (intOf iv)).toNat)
    case atStart => exact ⟨0, [], rfl, Nat.zero_le _, rfl, Lib.hid (by show unhA [] (bl s) = R; rw [HR.out]; unfold unhA; cases unhL (bl s) <;> simp), hown, hbel⟩
    case round =>
      clear hown hbel
      obtain ⟨k, acc, rfl, hk, hac, HU, hown, hbel⟩ := hrel
      by_cases hlt : k < n
      · obtain ⟨a, ha⟩ := at_some (bl s) (2 * k) (by rw [HL.out, HN.out]; omega)
        obtain ⟨b, hb⟩ := at_some (bl s) (2 * k + 1) (by rw [HL.out, HN.out]; omega)
        have X : ∀ h, s[2 * k]'h = a := atB_of s (2 * k) a ha
        have Y : ∀ h, s[2 * k + 1]'h = b := atB_of s (2 * k + 1) b hb
        have hdr : (bl s).drop (2 * k) = a :: b :: (bl s).drop (2 * (k + 1)) := by
          rw [drop_atI _ _ _ ha, drop_atI _ _ _ hb]; rfl
        have hg : 2 * (k : Int) < (s.size : Int) := by have := HN.out; omega
        have q0 : (0 : Int) ≤ 2 * (k : Int) := by omega
        have q1 : 2 * k < s.size := by omega
        have q2 : 2 * k + 1 < s.size := by have := HN.out; omega
        have t0 : (2 * (k : Int)).toNat = 2 * k := by omega
        have t1 : (2 * (k : Int) + 1).toNat = 2 * k + 1 := by omega
        have q3 : (0 : Int) ≤ 2 * (k : Int) + 1 := by omega
        have q4 : 2 * (k : Int) + 1 < (s.size : Int) := by omega
        have w1 : IntKind.i64.wrap (2 * (k : Int) + 1) = 2 * (k : Int) + 1 := wi64 _ (by omega) (by omega)
        have w2 : IntKind.i64.wrap (2 * (k : Int) + 2) = 2 * (k : Int) + 2 := wi64 _ (by omega) (by omega)
        have ka := fun w => hxIndex_any a w
        have kb := fun w => hxIndex_any b w
        have hU := HU.out
        rw [hdr] at hU
        by_cases hv : 0 ≤ hxV a ∧ 0 ≤ hxV b
        · obtain ⟨p, hp, hp16⟩ : ∃ p : Nat, hxV a = (p : Int) ∧ p < 16 := by
            rcases hxV_cases a with ⟨_, a0, a1, _⟩ | ⟨_, a0⟩
            · exact ⟨(hxV a).toNat, by omega, by omega⟩
            · omega
          obtain ⟨q, hq, hq16⟩ : ∃ q : Nat, hxV b = (q : Int) ∧ q < 16 := by
            rcases hxV_cases b with ⟨_, a0, a1, _⟩ | ⟨_, a0⟩
            · exact ⟨(hxV b).toNat, by omega, by omega⟩
            · omega
          rw [unhA_step acc a b _ hv.1 hv.2, hp, hq] at hU
          rw [hp] at ka
          rw [hq] at kb
          have ho := or16 p q hp16 hq16
          have ws : IntKind.i64.wrap ((p : Int) * 16) = (p : Int) * 16 := wi64 _ (by omega) (by omega)
          have wu : IntKind.u8.wrap ((p * 16 + q : Nat) : Int) = ((p * 16 + q : Nat) : Int) := wraps_u8 _ (by omega) (by omega)
          obtain ⟨z, hz⟩ : ∃ z : UInt8, z = UInt8.ofNat (p * 16 + q) := ⟨_, rfl⟩
          have hzn : z.toNat = p * 16 + q := by rw [hz, UInt8.toNat_ofNat']; omega
          have hU2 : unhA (acc ++ [z]) ((bl s).drop (2 * (k + 1))) = R := by rw [hz]; simpa using hU
          rw [← hzn] at ho wu
          have g1 : ¬ (p : Int) < 0 := by omega
          have g2 : ¬ (q : Int) < 0 := by omega
          have KA := Lib.hid ka
          have KB := Lib.hid kb
          have HU2 := Lib.hid hU2
          have HAC := Lib.hid hac
          have HO := Lib.hid hown
          have HB := Lib.hid hbel
          have hsz := hbel.size
          clear ka kb hU hU2 hv hdr ha hb hz hzn hac hown hbel HU hp hq hp16 hq16
          go_wp2_with (first
            | (go_at_call 58; (with_reducible refine (KA.out _).mono ?_); rintro e w' ⟨rfl, rfl⟩)
            | (go_at_call 58; (with_reducible refine (KB.out _).mono ?_); rintro e w' ⟨rfl, rfl⟩)
            | (at_builtin; go_loud (refine wpList_push1 rfl _ _ 77 5 rfl Tryz.underlying77 (.int .u8 0) 1 1 infoByte rfl (by decide) wr w.heap.size u4 k (bcells acc) rfl HO.out #[.int .u8 (z.toNat : Int)] rfl (by simp [Value.oneCell']) rfl (by omega) (by omega) hsz ?_; intro v' w4 hown4 hb4 hk4)))
          go_roundw
          case rel => exact ⟨k + 1, acc ++ [z], by go_num, by omega, by rw [List.length_append, HAC.out]; rfl, HU2, by rw [bcells_append]; exact hown4, HB.out.trans hb4⟩
          case measure => simp [intOf]; omega
        · rw [unhA_bad acc a b _ hv] at hU
          have hb1 : hxV a < 0 ∨ (0 ≤ hxV a ∧ hxV b < 0) := by omega
          generalize hxV a = p at *
          generalize hxV b = q at *
          have HU3 := Lib.hid (HV0.out hU.symm)
          have KA := Lib.hid ka
          have KB := Lib.hid kb
          have HB := Lib.hid hbel
          clear ka kb hU hv hdr ha hb hac hown hbel HU HR
          rcases hb1 with g1 | ⟨g0, g1⟩
          · go_wp2_with (first
              | (go_at_call 58; (with_reducible refine (KA.out _).mono ?_); rintro e w' ⟨rfl, rfl⟩)
              | (go_at_call 58; (with_reducible refine (KB.out _).mono ?_); rintro e w' ⟨rfl, rfl⟩))
            go_ret2
            exact ⟨by rw [HU3.out]; rfl, HB.out⟩
          · have g2 : ¬ p < 0 := by omega
            go_wp2_with (first
              | (go_at_call 58; (with_reducible refine (KA.out _).mono ?_); rintro e w' ⟨rfl, rfl⟩)
              | (go_at_call 58; (with_reducible refine (KB.out _).mono ?_); rintro e w' ⟨rfl, rfl⟩))
            go_ret2
            exact ⟨by rw [HU3.out]; rfl, HB.out⟩
      · have hkn : k = n := by omega
        have hg : ¬ 2 * (k : Int) < (s.size : Int) := by have := HN.out; omega
        have hU := HU.out
        rw [hkn, ← HN.out, ← HL.out, List.drop_length, unhA_nil] at hU
        have HU3 := Lib.hid (HV1.out _ hU.symm)
        have hcv := conv_own (P := Tryz.prog) 77 9 Tryz.underlying77 Tryz.underlying5 Tryz.underlying9 hown
        have HB := Lib.hid hbel
        clear hown hbel hU HU HR hkn hac
        go_wp2_with fail
        go_ret2
        exact ⟨by rw [HU3.out]; rfl, HB.out⟩
set_option maxRecDepth 100000 in
set_option maxHeartbeats 8000000 in
theorem pquote_any (b : ByteArray) (w : World) (hs : b.size ≤ 100000) : Calls Tryz.prog 24 #[.string b] w fun e w' => e = .returned (.string ⟨(quT (bl b)).toArray⟩) ∧ Below w.heap.size w w' := by
  obtain ⟨i0, hi, hz0, hz1, hz2⟩ := info_parts infoByte
  have HL : Hid ((bl b).length = b.size) := bl_length b
  obtain ⟨E, hE⟩ : ∃ E, E = quT (bl b) := ⟨_, rfl⟩
  rw [← hE]
  have HE := Lib.hid hE
  clear hE
  have hw : IntKind.i64.wrap ((b.size : Int) + 2) = ((b.size + 2 : Nat) : Int) := by rw [wi64 _ (by omega) (by omega)]; omega
  go_enter Tryz.func24, Tryz.ntmps24
  go_wp2_with (first
    | (refine wpList_make_own _ rfl _ _ 77 rfl _ 5 i0 (.int .u8 0) 1 Tryz.underlying77 hi hz0 hz1 .i64 .i64 ((b.size + 2 : Nat) : Int) (b.size + 2) rfl rfl rfl (by rw [hz2]; omega) (by unfold maxLen; omega) (Nat.le_refl _) ?_; intro W hown hgrow; have hbel : Below w.heap.size w W := (Below.refl _ _).grown hgrow (Nat.le_refl _) (by intro k hk; cases hk); clear hgrow; have hsz := hbel.size)
    | (at_builtin; go_loud (refine wpList_push1 rfl _ _ 77 5 rfl Tryz.underlying77 (.int .u8 0) 1 1 infoByte rfl (by decide) W w.heap.size (.slice (some ⟨w.heap.size, 0, none⟩) 0 (b.size + 2)) 0 [] rfl hown #[.int .u8 34] rfl (by simp [Value.oneCell']) rfl (by omega) (by omega) hsz ?_; intro v' w4 hown4 hb4 hk4)))
  have hbel4 := hbel.trans hb4
  clear hbel hb4 hown hsz hk4
  go_loopw [3, 15] (fun qv iv wr => ∃ (k : Nat) (acc : List UInt8), iv = .int .i64 (k : Int) ∧ k ≤ b.size ∧ Hid (acc = 34 :: quL ((bl b).take k)) ∧ acc.length ≤ 4 * k + 1 ∧ wr.ownsRow w.heap.size 5 1 qv acc.length (bcells acc) ∧ Below w.heap.size w wr) (fun _ iv _ => b.size - (intOf iv).toNat)
  case atStart => exact ⟨0, [34], rfl, Nat.zero_le _, Lib.hid rfl, by simp, by simpa [bcells] using hown4, hbel4⟩
  case round =>
    clear hown4 hbel4
    obtain ⟨k, acc, rfl, hk, HA, hal, hown, hbel⟩ := hrel
    by_cases hlt : k < b.size
    · obtain ⟨c, hc⟩ := at_some (bl b) k (by rw [HL.out]; exact hlt)
      have X := atB_of b k c hc
      have hst : acc ++ quB c = 34 :: quL ((bl b).take (k + 1)) := by
        rw [List.take_add_one, hc, Option.toList_some, quL_snoc, HA.out]; rfl
      have hq4 := quB_length c
      have hg : (k : Int) < (b.size : Int) := by omega
      have hx8 := c.toNat_lt
      have HST := Lib.hid hst
      have HO := Lib.hid hown
      have HB := Lib.hid hbel
      have hsz := hbel.size
      clear hst hown hbel hc HA
      by_cases c34 : c = 34
      · have hq : quB c = [92, 34] := by rw [c34]; rfl
        rw [hq] at HST
        have x34 : c.toNat = 34 := by rw [c34]; rfl
        rw [c34] at X
        have X' : ∀ h, ((b[k]'h).toNat : Int) = 34 := fun h => by rw [X h]; rfl
        clear X hq hq4 c34 x34
        go_wp2_with (at_builtin; go_loud (refine wpList_pushN rfl _ _ 77 5 rfl Tryz.underlying77 (.int .u8 0) 1 1 infoByte rfl (by decide) 2 wr w.heap.size u3 acc.length (bcells acc) rfl HO.out #[.int .u8 92, .int .u8 34] rfl (by simp [Value.oneCell']) rfl (by decide) (by omega) (by omega) hsz ?_; intro v' w4 hown4 hb4 hk4))
        go_roundw
        case rel => exact ⟨k + 1, acc ++ [92, 34], by go_num, by omega, HST, by simp; omega, by rw [bcells_append]; simpa [bcells] using hown4, HB.out.trans hb4⟩
        case measure => simp [intOf]; omega
      · have n34 : c.toNat ≠ 34 := fun h => c34 (UInt8.toNat_inj.1 h)
        have X' : ∀ h, ((b[k]'h).toNat : Int) = (c.toNat : Int) := fun h => by rw [X h]
        by_cases c92 : c = 92
        · have hq : quB c = [92, 92] := by rw [c92]; rfl
          rw [hq] at HST
          rw [c92] at X
          have X2 : ∀ h, ((b[k]'h).toNat : Int) = 92 := fun h => by rw [X h]; rfl
          clear X X' hq hq4 c92 c34 n34
          go_wp2_with (at_builtin; go_loud (refine wpList_pushN rfl _ _ 77 5 rfl Tryz.underlying77 (.int .u8 0) 1 1 infoByte rfl (by decide) 2 wr w.heap.size u3 acc.length (bcells acc) rfl HO.out #[.int .u8 92, .int .u8 92] rfl (by simp [Value.oneCell']) rfl (by decide) (by omega) (by omega) hsz ?_; intro v' w4 hown4 hb4 hk4))
          go_roundw
          case rel => exact ⟨k + 1, acc ++ [92, 92], by go_num, by omega, HST, by simp; omega, by rw [bcells_append]; simpa [bcells] using hown4, HB.out.trans hb4⟩
          case measure => simp [intOf]; omega
        · have n92 : c.toNat ≠ 92 := fun h => c92 (UInt8.toNat_inj.1 h)
          obtain ⟨x, hx⟩ : ∃ x, x = c.toNat := ⟨_, rfl⟩
          have hcx : (c.toNat : Int) = (x : Int) := by rw [hx]
          rw [← hx] at n34 n92 hx8 X'
          have e34 : ((x : Int) == 34) = false := by rw [beq_eq_false_iff_ne]; omega
          have e92 : ((x : Int) == 92) = false := by rw [beq_eq_false_iff_ne]; omega
          have f34 : ¬ (x : Int) = 34 := by omega
          have f92 : ¬ (x : Int) = 92 := by omega
          by_cases hp : x < 32 ∨ 126 < x
          · have hq : quB c = [92, 120, hxD (x / 16), hxD (x % 16)] := by unfold quB; rw [if_neg (by rintro (h | h); exact c34 h; exact c92 h), if_pos (by rw [← hx]; exact hp), ← hx]
            rw [hq] at HST
            have e2 : bits .and .u8 (x : Int) 15 = (x : Int) % 16 := by
              have : ∀ x : Fin 256, bits .and .u8 (x.val : Int) 15 = (x.val : Int) % 16 := by decide +kernel
              exact this ⟨x, hx8⟩
            have t0 : ((x : Int) / 16).toNat = x / 16 := by omega
            have t1 : ((x : Int) % 16).toNat = x % 16 := by omega
            have x0 := hx_at (x / 16) (by omega)
            have x1 := hx_at (x % 16) (by omega)
            have y0 : (0 : Int) ≤ (x : Int) / 16 ∧ (x : Int) / 16 < 16 := by omega
            have y1 : (0 : Int) ≤ (x : Int) % 16 ∧ (x : Int) % 16 < 16 := by omega
            obtain ⟨y, hy⟩ : ∃ y, y = hxD (x / 16) := ⟨_, rfl⟩
            obtain ⟨z, hz⟩ : ∃ z, z = hxD (x % 16) := ⟨_, rfl⟩
            rw [← hy] at x0 HST
            rw [← hz] at x1 HST
            have hZ := (bal (Below.refl wr.heap.size wr) (.cells #[.int .u8 92, .int .u8 120, .int .u8 (y.toNat : Int), .int .u8 (z.toNat : Int)] 5)).drew
            have HOZ := Lib.hid (orow_bel HO.out hZ)
            have hZs := hZ.size
            have HZ := Lib.hid hZ
            have hp1 : (x : Int) < 32 ∨ (¬ (x : Int) < 32 ∧ (x : Int) > 126) := by omega
            clear hZ X hx hy hz hq hq4 c34 c92 hcx n34 n92 hp
            rcases hp1 with g | ⟨g, g'⟩
            all_goals
              go_wp2_with fail
              go_region_held3 (fun _ => True) (first | trivial | go_keep)
                (first
                  | (refine step_pushX rfl _ _ 77 5 rfl Tryz.underlying77 (.int .u8 0) 1 1 infoByte rfl (by decide) 4 _ wr.heap.size w.heap.size u3 acc.length (bcells acc) rfl HOZ.out #[.int .u8 92, .int .u8 120, .int .u8 (y.toNat : Int), .int .u8 (z.toNat : Int)] rfl (by simp [Value.oneCell']) (by intro j u hj; exact (World.cell?_alloc_new _ _ _ _).trans hj) rfl (by decide) (by omega) (by omega) (by omega) ?_; intro v' w4 hown4 hb4))
            all_goals
              go_wp2_with fail
              refine ⟨⟨k + 1, acc ++ [92, 120, y, z], by go_num, by omega, HST, by simp; omega, ?_, HB.out.trans ((HZ.out.mono hsz).trans hb4)⟩, by simp [intOf]; omega⟩
              rw [bcells_append]
              simpa [bcells] using hown4
          · have hq : quB c = [c] := by unfold quB; rw [if_neg (by rintro (h | h); exact c34 h; exact c92 h), if_neg (by rw [← hx]; exact hp)]
            rw [hq] at HST
            have g : ¬ (x : Int) < 32 := by omega
            have g' : ¬ (x : Int) > 126 := by omega
            have hown5 := fun v' w4 (h : World.ownsRow w4 w.heap.size 5 1 v' (acc.length + 1) (bcells acc ++ #[Value.int .u8 (x : Int)].toList)) => (show w4.ownsRow w.heap.size 5 1 v' (acc ++ [c]).length (bcells (acc ++ [c])) by rw [bcells_append, show bcells [c] = [.int .u8 (x : Int)] by rw [hx]; rfl]; simpa using h)
            have H5 := Lib.hid hown5
            clear X hx hq hq4 c34 c92 hcx n34 n92 hp hown5
            go_wp2_with (at_builtin; go_loud (refine wpList_push1 rfl _ _ 77 5 rfl Tryz.underlying77 (.int .u8 0) 1 1 infoByte rfl (by decide) wr w.heap.size u3 acc.length (bcells acc) rfl HO.out #[.int .u8 (x : Int)] rfl (by simp [Value.oneCell']) rfl (by omega) (by omega) hsz ?_; intro v' w4 hown4 hb4 hk4))
            go_roundw
            case rel => exact ⟨k + 1, acc ++ [c], by go_num, by omega, HST, by simp; omega, H5.out _ _ hown4, HB.out.trans hb4⟩
            case measure => simp [intOf]; omega
    · have hkn : k = b.size := by omega
      have hg : ¬ (k : Int) < (b.size : Int) := by omega
      have hA := HA.out
      rw [hkn, List.take_of_length_le (by rw [HL.out]; exact Nat.le_refl _)] at hA
      have hEE : E = acc ++ [34] := by rw [HE.out, hA]; rfl
      have HEE := Lib.hid hEE
      have HO := Lib.hid hown
      have HB := Lib.hid hbel
      have hsz := hbel.size
      have hcv := fun v' w4 (h : World.ownsRow w4 w.heap.size 5 1 v' (acc.length + 1) (bcells acc ++ #[Value.int .u8 34].toList)) => conv_own (P := Tryz.prog) (l := acc ++ [34]) 77 9 Tryz.underlying77 Tryz.underlying5 Tryz.underlying9 (show w4.ownsRow w.heap.size 5 1 v' (acc.length + 1) (bcells (acc ++ [34])) by rw [bcells_append]; exact h)
      have HCV := Lib.hid hcv
      clear hA hEE hown hbel hcv HA hkn
      go_wp2_with (at_builtin; go_loud (refine wpList_push1 rfl _ _ 77 5 rfl Tryz.underlying77 (.int .u8 0) 1 1 infoByte rfl (by decide) wr w.heap.size u3 acc.length (bcells acc) rfl HO.out #[.int .u8 34] rfl (by simp [Value.oneCell']) rfl (by omega) (by omega) hsz ?_; intro v' w4 hown4 hb4 hk4); have hcv := HCV.out _ _ hown4)
      go_ret
      exact ⟨ret_s (by rw [HEE.out]), HB.out.trans hb4⟩
theorem ex_one (b : ByteArray) (k : Nat) (c : UInt8) (h : (bl b)[k]? = some c) : b.extract k (k + 1) = ⟨#[c]⟩ := by
  have hlt : k < b.size := by rw [← bl_length]; exact (List.getElem?_eq_some_iff.1 h).1
  apply bl_eq'
  rw [ByteArray.data_extract, Array.toList_extract]
  show List.extract (bl b) k (k + 1) = [c]
  rw [List.extract_eq_take_drop, drop_atI _ _ _ h]
  simp
set_option maxRecDepth 100000 in
set_option maxHeartbeats 8000000 in
theorem rquote_any (b : ByteArray) (w : World) (hs : b.size ≤ 100000) : Calls Tryz.prog 25 #[.string b] w fun e w' => e = .returned (.string ⟨(quT (bl b)).toArray⟩) ∧ Below w.heap.size w w' := by
  have HL : Hid ((bl b).length = b.size) := bl_length b
  obtain ⟨E, hE⟩ : ∃ E, E = quT (bl b) := ⟨_, rfl⟩
  rw [← hE]
  have HE := Lib.hid hE
  clear hE
  have KH := Lib.hid fun (c : UInt8) (w : World) => rhex_any ⟨#[c]⟩ w (show (1 : Nat) ≤ 1000000 by decide)
  go_enter Tryz.func25, Tryz.ntmps25
  go_wp2_with fail
  go_loopw [3, 4] (fun sv iv wr => ∃ (k : Nat) (T : ByteArray), sv = .string T ∧ iv = .int .i64 (k : Int) ∧ k ≤ b.size ∧ T.size ≤ 4 * k + 1 ∧ Hid (bl T = 34 :: quL ((bl b).take k)) ∧ Hid (Below w.heap.size w wr)) (fun _ iv _ => b.size - (intOf iv).toNat)
  case atStart => exact ⟨0, ⟨#[34]⟩, rfl, rfl, Nat.zero_le _, Nat.le_refl _, Lib.hid rfl, Lib.hid (Below.refl _ _)⟩
  case round =>
    obtain ⟨k, T, rfl, rfl, hk, hT, HT, HB⟩ := hrel
    by_cases hlt : k < b.size
    · obtain ⟨c, hc⟩ := at_some (bl b) k (by rw [HL.out]; exact hlt)
      have X := atB_of b k c hc
      have hst : bl T ++ quB c = 34 :: quL ((bl b).take (k + 1)) := by
        rw [List.take_add_one, hc, Option.toList_some, quL_snoc, HT.out]; rfl
      have hg : (k : Int) < (b.size : Int) := by omega
      have hx1 := ex_one b k c hc
      have w1 : IntKind.i64.wrap ((k : Int) + 1) = (k : Int) + 1 := wi64 _ (by omega) (by omega)
      have q0 : (0 : Int) ≤ (k : Int) := by omega
      have q1 : (k : Int) + 1 ≤ (b.size : Int) := by omega
      have q2 : k + 1 ≤ b.size := by omega
      have t1 : ((k : Int) + 1).toNat = k + 1 := by omega
      have hx8 := c.toNat_lt
      have HST := Lib.hid hst
      clear hst hc HT
      by_cases c34 : c = 34
      · have hq : quB c = [92, 34] := by rw [c34]; rfl
        rw [hq] at HST
        rw [c34] at X hx1
        have X' : ∀ h, ((b[k]'h).toNat : Int) = 34 := fun h => by rw [X h]; rfl
        clear X hq c34 hx8
        go_wp2_with fail
        go_roundw
        case rel =>
          refine ⟨k + 1, T ++ ⟨#[92]⟩ ++ ⟨#[34]⟩, rfl, by go_num, by omega, ?_, Lib.hid ?_, HB⟩
          · rw [ByteArray.size_append, ByteArray.size_append]; show T.size + 1 + 1 ≤ _; omega
          · rw [← HST.out]; simp [bl, ByteArray.data_append]
        case measure => simp [intOf]; omega
      · have n34 : c.toNat ≠ 34 := fun h => c34 (UInt8.toNat_inj.1 h)
        by_cases c92 : c = 92
        · have hq : quB c = [92, 92] := by rw [c92]; rfl
          rw [hq] at HST
          rw [c92] at X hx1
          have X' : ∀ h, ((b[k]'h).toNat : Int) = 92 := fun h => by rw [X h]; rfl
          clear X hq c92 c34 hx8 n34
          go_wp2_with fail
          go_roundw
          case rel =>
            refine ⟨k + 1, T ++ ⟨#[92]⟩ ++ ⟨#[92]⟩, rfl, by go_num, by omega, ?_, Lib.hid ?_, HB⟩
            · rw [ByteArray.size_append, ByteArray.size_append]; show T.size + 1 + 1 ≤ _; omega
            · rw [← HST.out]; simp [bl, ByteArray.data_append]
          case measure => simp [intOf]; omega
        · have n92 : c.toNat ≠ 92 := fun h => c92 (UInt8.toNat_inj.1 h)
          obtain ⟨x, hx⟩ : ∃ x, x = c.toNat := ⟨_, rfl⟩
          have X' : ∀ h, ((b[k]'h).toNat : Int) = (x : Int) := fun h => by rw [X h, hx]
          rw [← hx] at n34 n92 hx8
          have e34 : ((x : Int) == 34) = false := by rw [beq_eq_false_iff_ne]; omega
          have e92 : ((x : Int) == 92) = false := by rw [beq_eq_false_iff_ne]; omega
          have f34 : ¬ (x : Int) = 34 := by omega
          have f92 : ¬ (x : Int) = 92 := by omega
          by_cases hp : x < 32 ∨ 126 < x
          · have hq : quB c = [92, 120, hxD (x / 16), hxD (x % 16)] := by unfold quB; rw [if_neg (by rintro (h | h); exact c34 h; exact c92 h), if_pos (by rw [← hx]; exact hp), ← hx]
            rw [hq] at HST
            obtain ⟨H, hH⟩ : ∃ H : ByteArray, H = ⟨(hxL (bl ⟨#[c]⟩)).toArray⟩ := ⟨_, rfl⟩
            have kh := fun w => KH.out c w
            rw [← hH] at kh
            have hHl : bl H = [hxD (x / 16), hxD (x % 16)] := by rw [hH, hx]; rfl
            have hHs : H.size = 2 := by rw [← bl_length, hHl]; rfl
            have HHL := Lib.hid hHl
            have KH2 := Lib.hid kh
            have hbk := HB.out
            have hp1 : (x : Int) < 32 ∨ (¬ (x : Int) < 32 ∧ (x : Int) > 126) := by omega
            clear X hx hq c34 c92 n34 n92 hp hH kh hHl
            rcases hp1 with g | ⟨g, g'⟩
            all_goals
              go_wp2_with (go_at_call 23; (with_reducible refine (KH2.out _).mono ?_); rintro e w10 ⟨rfl, hb10⟩; have hbk := bt hbk hb10)
              go_roundw
              case rel =>
                refine ⟨k + 1, T ++ ⟨#[92, 120]⟩ ++ H, rfl, by go_num, by omega, ?_, Lib.hid ?_, Lib.hid hbk⟩
                · rw [ByteArray.size_append, ByteArray.size_append, hHs]; show T.size + 2 + 2 ≤ _; omega
                · rw [← HST.out]
                  have := HHL.out
                  simp only [bl] at this ⊢
                  simp [ByteArray.data_append, this]
              case measure => simp [intOf]; omega
          · have hq : quB c = [c] := by unfold quB; rw [if_neg (by rintro (h | h); exact c34 h; exact c92 h), if_neg (by rw [← hx]; exact hp)]
            rw [hq] at HST
            have g : ¬ (x : Int) < 32 := by omega
            have g' : ¬ (x : Int) > 126 := by omega
            clear X hx hq c34 c92 n34 n92 hp
            go_wp2_with fail
            go_roundw
            case rel =>
              refine ⟨k + 1, T ++ ⟨#[c]⟩, rfl, by go_num, by omega, ?_, Lib.hid ?_, HB⟩
              · rw [ByteArray.size_append]; show T.size + 1 ≤ _; omega
              · rw [← HST.out]; simp [bl, ByteArray.data_append]
            case measure => simp [intOf]; omega
    · have hkn : k = b.size := by omega
      have hg : ¬ (k : Int) < (b.size : Int) := by omega
      have e := HT.out
      rw [hkn, List.take_of_length_le (by rw [HL.out]; exact Nat.le_refl _)] at e
      have hEE : E = bl T ++ [34] := by rw [HE.out, e]; rfl
      have HEE := Lib.hid hEE
      clear e hEE HT
      go_wp2_with fail
      go_ret
      exact ⟨ret_s (by rw [HEE.out]; apply bl_eq'; simp [bl, ByteArray.data_append]), HB.out⟩
set_option maxRecDepth 100000 in
set_option maxHeartbeats 4000000 in
theorem lhex_any (s : ByteArray) (w : World) (hs : s.size ≤ 1000000) : Calls Tryz.prog 26 #[.string s] w fun e w' => e = .returned (.bool (hexL (bl s))) ∧ Below w.heap.size w w' := by
  have HL : Hid ((bl s).length = s.size) := bl_length s
  obtain ⟨R, hR⟩ : ∃ R, R = hexL (bl s) := ⟨_, rfl⟩
  rw [← hR]
  have HR := Lib.hid hR
  clear hR
  go_enter Tryz.func26, Tryz.ntmps26
  go_wp2_with fail
  go_loop [6] (fun iv => ∃ k : Nat, iv = .int .i64 (k : Int) ∧ k ≤ s.size ∧ Hid (((bl s).take k).all hxB = true)) (fun iv => s.size - (intOf iv).toNat)
  case atStart => exact ⟨0, rfl, Nat.zero_le _, Lib.hid (by simp)⟩
  case round =>
    obtain ⟨k, rfl, hk, HA⟩ := hrel
    by_cases hlt : k < s.size
    · obtain ⟨c, hc⟩ := at_some (bl s) k (by rw [HL.out]; exact hlt)
      have X := atB_of s k c hc
      obtain ⟨h1, h2⟩ := all_step hxB (bl s) k c hc HA.out
      have hg : (k : Int) < (s.size : Int) := by omega
      have hx8 := c.toNat_lt
      obtain ⟨x, hx⟩ : ∃ x, x = c.toNat := ⟨_, rfl⟩
      have X' : ∀ h, ((s[k]'h).toNat : Int) = (x : Int) := fun h => by rw [X h, hx]
      have hb : hxB c = ((decide (48 ≤ x) && decide (x ≤ 57)) || (decide (97 ≤ x) && decide (x ≤ 102))) := by unfold hxB; rw [hx]
      by_cases a1 : (48 ≤ x ∧ x ≤ 57) ∨ (97 ≤ x ∧ x ≤ 102)
      · have hb1 : hxB c = true := by rw [hb]; simp; omega
        have H1 := Lib.hid (h1 hb1)
        have a2 : ((x : Int) ≥ 48 ∧ (x : Int) ≤ 57) ∨ ((x : Int) ≥ 48 ∧ ¬ (x : Int) ≤ 57 ∧ (x : Int) ≥ 97 ∧ (x : Int) ≤ 102) := by omega
        clear X h1 h2 hb hb1 hc hx HA a1
        rcases a2 with ⟨g1, g2⟩ | ⟨g1, g2, g3, g4⟩
        all_goals
          go_wp2_with fail
          go_round
          case rel => exact ⟨k + 1, by go_num, by omega, H1⟩
          case measure => simp [intOf]; omega
      · have hb1 : hxB c = false := by rw [hb]; simp; omega
        have hr : R = false := by rw [HR.out]; unfold hexL; rw [h2 hb1]; rfl
        have HRR := Lib.hid hr
        have a2 : ¬ (x : Int) ≥ 48 ∨ ((x : Int) ≥ 48 ∧ ¬ (x : Int) ≤ 57 ∧ ¬ (x : Int) ≥ 97) ∨ ((x : Int) ≥ 48 ∧ ¬ (x : Int) ≤ 57 ∧ (x : Int) ≥ 97 ∧ ¬ (x : Int) ≤ 102) := by omega
        clear X h1 h2 hb hb1 hc hx HA a1 hr HR
        rcases a2 with g1 | ⟨g1, g2, g3⟩ | ⟨g1, g2, g3, g4⟩
        · have g3 : ¬ (x : Int) ≥ 97 := by omega
          go_wp2_with fail
          go_ret
          exact ⟨by rw [HRR.out]; rfl, Below.refl _ _⟩
        · go_wp2_with fail
          go_ret
          exact ⟨by rw [HRR.out]; rfl, Below.refl _ _⟩
        · go_wp2_with fail
          go_ret
          exact ⟨by rw [HRR.out]; rfl, Below.refl _ _⟩
    · have hkn : k = s.size := by omega
      have hg : ¬ (k : Int) < (s.size : Int) := by omega
      have hA := all_end hxB (bl s) k (by rw [HL.out]; omega) HA.out
      have hr : R = decide (s.size % 2 = 0) := by rw [HR.out]; unfold hexL; rw [hA, HL.out]; rfl
      have hm : (s.size : Int).tmod 2 = ((s.size % 2 : Nat) : Int) := rfl
      obtain ⟨m, hmm⟩ : ∃ m, m = s.size % 2 := ⟨_, rfl⟩
      rw [← hmm] at hm hr
      have HRR := Lib.hid hr
      have hm2 : m = 0 ∨ m = 1 := by omega
      clear hA hr HR HA hmm
      rcases hm2 with rfl | rfl
      · go_wp2_with fail
        go_ret
        exact ⟨by rw [HRR.out]; rfl, Below.refl _ _⟩
      · go_wp2_with fail
        go_ret
        exact ⟨by rw [HRR.out]; rfl, Below.refl _ _⟩
end Go.Proofs.YtjoechkdmdinoaaGreatDoor
