/- Walks: math/bits.TrailingZeros32; wansung.choose, Place, Extra. -/
import Derived.Test.YtogknbpmgflpgaaGreatDoorWy
namespace Go.Proofs.YtogknbpmgflpgaaGreatDoor
open Go.RowKit
set_option linter.unusedVariables false
set_option linter.unusedSimpArgs false

/-- the place in the library's table. -/
def tzAt (n : Int) : Int := bits .and .u32 n (-n % 4294967296) * 125613361 % 4294967296 / 134217728
def tz32 (n : Int) : Nat := if n = 0 then 32 else Lib.deBruijn32tab.getD (tzAt n).toNat 0
theorem tzAt_bd (n : Int) : 0 ≤ tzAt n ∧ tzAt n < 32 := by
  unfold tzAt; omega
theorem tz_le : ∀ i : Fin 32, Lib.deBruijn32tab.getD i.val 0 < 32 := by decide
theorem tz32_le (n : Int) : tz32 n ≤ 32 := by
  unfold tz32
  have h := tzAt_bd n
  have h2 := tz_le ⟨(tzAt n).toNat, by omega⟩
  simp only at h2
  split <;> omega

set_option maxHeartbeats 1000000 in
theorem tz_any (n : Int) (w : World) (hT : TW w) (h0 : 0 ≤ n) (h1 : n < 4294967296) :
    Calls Tryz.prog 241 #[.int .u32 n] w fun e w' => e = .returned (.int .i64 (tz32 n)) ∧ w = w' := by
  have hb := tzAt_bd n
  have ht : tz32 n = if n = 0 then 32 else Lib.deBruijn32tab.getD (tzAt n).toNat 0 := rfl
  have hd := hT.db (tzAt n).toNat (by omega)
  rw [ht]
  clear ht hT
  by_cases hz : n = 0
  · subst hz
    go_enter Tryz.func241, Tryz.ntmps241
    go_wp2
    go_ret
    exact ⟨rfl, rfl⟩
  · rw [if_neg hz]
    have hr := tz_le ⟨(tzAt n).toNat, by omega⟩
    simp only at hr
    generalize Lib.deBruijn32tab.getD (tzAt n).toNat 0 = r at *
    unfold tzAt at hd hb
    obtain ⟨hb0, hb1⟩ := hb
    have hzB : (n == 0) = false := by simpa using hz
    go_enter Tryz.func241, Tryz.ntmps241
    go_wp2
    go_ret
    exact ⟨rfl, rfl⟩

theorem onesCountZ_any (n : Int) (w : World) (h0 : 0 ≤ n) (h1 : n < 4294967296) :
    Calls Tryz.prog 210 #[.int .u32 n] w fun e w' => e = .returned (.int .i64 (pop32 n.toNat)) ∧ Below w.heap.size w w' := by
  obtain ⟨m, rfl⟩ := Int.eq_ofNat_of_zero_le h0
  exact onesCount_any m w (by omega)
theorem pop32_le (n : Nat) : pop32 n ≤ 32 := by
  have q1 := pop8_le (n / 16777216)
  have q2 := pop8_le (n / 65536 % 256)
  have q3 := pop8_le (n / 256 % 256)
  have q4 := pop8_le (n % 256)
  unfold pop32; omega
theorem u32_bits_bd (op : BinOp) (x y : Int) : 0 ≤ bits op .u32 x y ∧ bits op .u32 x y < 4294967296 := by
  unfold bits
  simp only [IntKind.wrap_u32]
  omega

/-- a group's members, or those that are none. -/
noncomputable def grpW (within : Bool) (g : Nat) : Int := if within then grp g else bits .xor .u32 (grp g) 268435455
/-- a number without its lowest j bits that are set. -/
def clr (n : Int) : Nat → Int
  | 0 => n
  | j + 1 => clr (bits .and .u32 n ((n - 1) % 4294967296)) j
/-- the k-th syllable from a group on that is in the rows, or isn't. -/
noncomputable def chooseF (within : Bool) : Nat → Nat → Nat → Int × Bool
  | 0, _, _ => (0, false)
  | f + 1, g, k => if pop32 (grpW within g).toNat ≤ k then chooseF within f (g + 1) (k - pop32 (grpW within g).toNat)
    else (44032 + (g : Int) * 28 + tz32 (clr (grpW within g) k), true)
noncomputable def chooseM (k : Int) (within : Bool) : Int × Bool := if k < 0 then (0, false) else chooseF within 399 0 k.toNat
theorem grpW_bd (within : Bool) (g : Nat) (hg : g < 399) : 0 ≤ grpW within g ∧ grpW within g < 4294967296 := by
  unfold grpW
  split
  · have := grp_bd g hg; omega
  · exact u32_bits_bd _ _ _
theorem clr_bd (n : Int) (j : Nat) (h : 0 ≤ n ∧ n < 4294967296) : 0 ≤ clr n j ∧ clr n j < 4294967296 := by
  induction j generalizing n with
  | zero => exact h
  | succ j ih => rw [clr]; exact ih _ (u32_bits_bd _ _ _)

set_option maxRecDepth 100000 in
set_option maxHeartbeats 2000000 in
theorem choose_any (k : Int) (within : Bool) (w : World) (hT : TW w) (hk : k < 40000) :
    Calls Tryz.prog 220 #[.int .i64 k, .bool within] w fun e w' => e = .returned (.tuple #[.int .i32 (chooseM k within).1, .bool (chooseM k within).2]) ∧ Below w.heap.size w w' := by
  by_cases hneg : k < 0
  · have e : chooseM k within = (0, false) := by unfold chooseM; rw [if_pos hneg]
    rw [e]
    go_enter Tryz.func220, Tryz.ntmps220
    go_wp2_with fail
    go_ret2
    exact ⟨rfl, Below.refl _ _⟩
  · obtain ⟨k, rfl⟩ := Int.eq_ofNat_of_zero_le (show 0 ≤ k from by omega)
    obtain ⟨R, hR⟩ : ∃ R, R = chooseF within 399 0 k := ⟨_, rfl⟩
    have e : chooseM k within = R := by unfold chooseM; rw [if_neg hneg, Int.toNat_natCast, hR]
    rw [e]
    have HR := Lib.hid hR
    have HT := Lib.hid hT
    have hk0 : k < 40000 := by omega
    have K0 : Hid (k = k) := rfl
    clear e hR hT hk
    go_enter Tryz.func220, Tryz.ntmps220
    go_wp2
    go_loopw [0, 6] (fun kk g wr => ∃ (f i j : Nat), kk = .int .i64 (j : Int) ∧ g = .int .i64 (i : Int) ∧ i + f = 399 ∧ j < 40000 ∧ Hid (chooseF within f i j = R) ∧ Below w.heap.size w wr) (fun _ g _ => (399 - intOf g).toNat)
    case atStart => exact ⟨399, 0, k, rfl, rfl, rfl, hk0, HR.out.symm, Below.refl _ _⟩
    case round =>
      obtain ⟨f, i, j, rfl, rfl, hi, hj, hR, hbel⟩ := hrel
      by_cases hlt : i < 399
      · obtain ⟨f, rfl⟩ : ∃ g, f = g + 1 := ⟨f - 1, by omega⟩
        have c1 := fun w => group_any i w hlt
        obtain ⟨g0, g1⟩ := grp_bd i hlt
        obtain ⟨gw0, gw1⟩ := grpW_bd within i hlt
        have hp := pop32_le (grpW within i).toNat
        have c2 := fun w => onesCountZ_any (grpW within i) w gw0 gw1
        have hr := hR.out
        rw [chooseF] at hr
        have hgw : grpW within i = if within then grp i else bits .xor .u32 (grp i) 268435455 := rfl
        cases within
        · simp only [Bool.false_eq_true, if_false] at hgw
          generalize pop32 (grpW false i).toNat = c at *
          rw [hgw] at c2 hr gw0 gw1
          clear hgw hneg
          generalize grp i = n at *
          have C1 := Lib.hid c1
          have C2 := Lib.hid c2
          clear c1 c2
          by_cases hc : c ≤ j
          · rw [if_pos hc] at hr
            have H := Lib.hid hr
            have HI := Lib.hid hi
            clear hr hi gw0 gw1
            go_wp2_with (first
              | (go_at_call 211; refine (C1.out _).mono ?_; rintro e w' ⟨rfl, rfl⟩)
              | (go_at_call 210; refine (C2.out _).mono ?_; rintro e w1 ⟨rfl, hb1⟩))
            go_roundw
            case rel => exact ⟨f, i + 1, j - c, by go_num, by go_num, by have := HI.out; omega, by omega, H.out, bt hbel hb1⟩
            case measure => simp [intOf]; omega
          · rw [if_neg hc] at hr
            have H := Lib.hid hr
            have HG : Hid (0 ≤ bits .xor .u32 n 268435455 ∧ bits .xor .u32 n 268435455 < 4294967296) := ⟨gw0, gw1⟩
            clear hr hi gw0 gw1
            go_wp2_with (first
              | (go_at_call 211; refine (C1.out _).mono ?_; rintro e w' ⟨rfl, rfl⟩)
              | (go_at_call 210; refine (C2.out _).mono ?_; rintro e w1 ⟨rfl, hb1⟩))
            have hbw := bt hbel hb1
            clear hbel hb1
            go_loop [0, 7] (fun kk m => ∃ (q : Nat) (x : Int), kk = .int .i64 (q : Int) ∧ m = .int .u32 x ∧ q ≤ j ∧ Hid (0 ≤ x ∧ x < 4294967296) ∧ Hid (clr x q = clr (bits .xor .u32 n 268435455) j)) (fun kk _ => (intOf kk).toNat)
            case atStart => exact ⟨j, _, rfl, rfl, Nat.le_refl _, HG.out, rfl⟩
            case round =>
              obtain ⟨q, x, rfl, rfl, hq, hx, hcl⟩ := hrel
              by_cases hq0 : 0 < q
              · obtain ⟨q, rfl⟩ : ∃ r, q = r + 1 := ⟨q - 1, by omega⟩
                have hx' : 0 ≤ x ∧ x < 4294967296 := hx.out
                obtain ⟨x0, x1⟩ := hx'
                have e1 : clr (bits .and .u32 x ((x - 1) % 4294967296)) q = clr (bits .xor .u32 n 268435455) j := hcl.out
                have E1 := Lib.hid e1
                clear e1
                go_wp2
                go_round
                case rel => exact ⟨q, _, by go_num, rfl, by omega, u32_bits_bd _ _ _, E1.out⟩
                case measure => simp [intOf]
              · obtain rfl : q = 0 := by omega
                have e1 : x = clr (bits .xor .u32 n 268435455) j := hcl.out
                obtain ⟨x0, x1⟩ := hx.out
                have htz := tz32_le x
                have c3 := fun w hT => tz_any x w hT x0 x1
                have hfin := H.out
                rw [← e1] at hfin
                generalize tz32 x = z at *
                have C3 := Lib.hid c3
                have HF := Lib.hid hfin
                clear c3 hfin e1 H
                go_wp2_with (go_at_call 241; refine (C3.out _ (HT.out.bel hbw)).mono ?_; rintro e w' ⟨rfl, rfl⟩)
                go_ret2
                exact ⟨by rw [← HF.out]; rfl, hbw⟩
        · simp only [if_true] at hgw
          generalize pop32 (grpW true i).toNat = c at *
          rw [hgw] at c2 hr gw0 gw1
          clear hgw hneg
          generalize grp i = n at *
          have C1 := Lib.hid c1
          have C2 := Lib.hid c2
          clear c1 c2
          by_cases hc : c ≤ j
          · rw [if_pos hc] at hr
            have H := Lib.hid hr
            have HI := Lib.hid hi
            clear hr hi gw0 gw1
            go_wp2_with (first
              | (go_at_call 211; refine (C1.out _).mono ?_; rintro e w' ⟨rfl, rfl⟩)
              | (go_at_call 210; refine (C2.out _).mono ?_; rintro e w1 ⟨rfl, hb1⟩))
            go_roundw
            case rel => exact ⟨f, i + 1, j - c, by go_num, by go_num, by have := HI.out; omega, by omega, H.out, bt hbel hb1⟩
            case measure => simp [intOf]; omega
          · rw [if_neg hc] at hr
            have H := Lib.hid hr
            have HG : Hid (0 ≤ n ∧ n < 4294967296) := ⟨gw0, gw1⟩
            clear hr hi gw0 gw1
            go_wp2_with (first
              | (go_at_call 211; refine (C1.out _).mono ?_; rintro e w' ⟨rfl, rfl⟩)
              | (go_at_call 210; refine (C2.out _).mono ?_; rintro e w1 ⟨rfl, hb1⟩))
            have hbw := bt hbel hb1
            clear hbel hb1
            go_loop [0, 7] (fun kk m => ∃ (q : Nat) (x : Int), kk = .int .i64 (q : Int) ∧ m = .int .u32 x ∧ q ≤ j ∧ Hid (0 ≤ x ∧ x < 4294967296) ∧ Hid (clr x q = clr (n) j)) (fun kk _ => (intOf kk).toNat)
            case atStart => exact ⟨j, _, rfl, rfl, Nat.le_refl _, HG.out, rfl⟩
            case round =>
              obtain ⟨q, x, rfl, rfl, hq, hx, hcl⟩ := hrel
              by_cases hq0 : 0 < q
              · obtain ⟨q, rfl⟩ : ∃ r, q = r + 1 := ⟨q - 1, by omega⟩
                have hx' : 0 ≤ x ∧ x < 4294967296 := hx.out
                obtain ⟨x0, x1⟩ := hx'
                have e1 : clr (bits .and .u32 x ((x - 1) % 4294967296)) q = clr (n) j := hcl.out
                have E1 := Lib.hid e1
                clear e1
                go_wp2
                go_round
                case rel => exact ⟨q, _, by go_num, rfl, by omega, u32_bits_bd _ _ _, E1.out⟩
                case measure => simp [intOf]
              · obtain rfl : q = 0 := by omega
                have e1 : x = clr (n) j := hcl.out
                obtain ⟨x0, x1⟩ := hx.out
                have htz := tz32_le x
                have c3 := fun w hT => tz_any x w hT x0 x1
                have hfin := H.out
                rw [← e1] at hfin
                generalize tz32 x = z at *
                have C3 := Lib.hid c3
                have HF := Lib.hid hfin
                clear c3 hfin e1 H
                go_wp2_with (go_at_call 241; refine (C3.out _ (HT.out.bel hbw)).mono ?_; rintro e w' ⟨rfl, rfl⟩)
                go_ret2
                exact ⟨by rw [← HF.out]; rfl, hbw⟩
      · have hf0 : f = 0 := by omega
        subst hf0
        have hr := hR.out
        rw [chooseF] at hr
        have H := Lib.hid hr
        have hi9 : i = 399 := by omega
        subst hi9
        clear hi hr
        go_wp2
        go_ret2
        exact ⟨by rw [← H.out]; rfl, hbel⟩

theorem place_any (k : Int) (w : World) (hT : TW w) (hk : k < 40000) :
    Calls Tryz.prog 218 #[.int .i64 k] w fun e w' => e = .returned (.tuple #[.int .i32 (chooseM k true).1, .bool (chooseM k true).2]) ∧ Below w.heap.size w w' := by
  have c1 := choose_any k true w hT hk
  generalize chooseM k true = r at *
  have C1 := Lib.hid c1
  clear c1
  go_enter Tryz.func218, Tryz.ntmps218
  go_wp2_with (go_at_call 220; refine C1.out.mono ?_; rintro e w1 ⟨rfl, hb⟩)
  go_ret2
  exact ⟨rfl, hb⟩
theorem extra_any (k : Int) (w : World) (hT : TW w) (hk : k < 40000) :
    Calls Tryz.prog 181 #[.int .i64 k] w fun e w' => e = .returned (.tuple #[.int .i32 (chooseM k false).1, .bool (chooseM k false).2]) ∧ Below w.heap.size w w' := by
  have c1 := choose_any k false w hT hk
  generalize chooseM k false = r at *
  have C1 := Lib.hid c1
  clear c1
  go_enter Tryz.func181, Tryz.ntmps181
  go_wp2_with (go_at_call 220; refine C1.out.mono ?_; rintro e w1 ⟨rfl, hb⟩)
  go_ret2
  exact ⟨rfl, hb⟩
end Go.Proofs.YtogknbpmgflpgaaGreatDoor
/- Walks: wansung.number, second, Rank. -/
namespace Go.Proofs.YtogknbpmgflpgaaGreatDoor
open Go.RowKit
set_option linter.unusedVariables false
set_option linter.unusedSimpArgs false

def numberM (s : Int) : Int := if 65 ≤ s ∧ s ≤ 90 then s - 65 else if 97 ≤ s ∧ s ≤ 122 then s - 97 + 26 else if 129 ≤ s ∧ s ≤ 254 then s - 129 + 52 else -1
def secondM (n : Int) : Int := if n < 26 then 65 + n else if n < 52 then 97 + n - 26 else 129 + n - 52
set_option maxHeartbeats 1000000 in
theorem number_any (s : Int) (w : World) (h0 : 0 ≤ s) (h1 : s ≤ 255) :
    Calls Tryz.prog 179 #[.int .i64 s] w fun e w' => e = .returned (.int .i64 (numberM s)) ∧ w = w' := by
  go_enter Tryz.func179, Tryz.ntmps179
  go_wp2
  all_goals go_ret
  all_goals (refine ⟨ret_i ?_, rfl⟩; unfold numberM; omega)
set_option maxHeartbeats 1000000 in
theorem second_any (s : Int) (w : World) (h0 : 0 ≤ s) (h1 : s ≤ 255) :
    Calls Tryz.prog 182 #[.int .i64 s] w fun e w' => e = .returned (.int .i64 (secondM s)) ∧ w = w' := by
  go_enter Tryz.func182, Tryz.ntmps182
  go_wp2
  all_goals go_ret
  all_goals (refine ⟨ret_i ?_, rfl⟩; unfold secondM; omega)

/-- how many syllables of the groups below one are in the rows. -/
noncomputable def popSum : Nat → Nat
  | 0 => 0
  | g + 1 => popSum g + pop32 (grp g).toNat
theorem popSum_le (g : Nat) : popSum g ≤ 32 * g := by
  induction g with
  | zero => simp [popSum]
  | succ g ih => have := pop32_le (grp g).toNat; rw [popSum]; omega

/-- the members of a syllable's group ahead of it; the bit of its own. -/
def lowBits (n p : Int) : Int := bits .and .u32 n ((2 ^ ((p - 44032) % 28).toNat - 1) % 4294967296)
def ownBit (n p : Int) : Int := bits .and .u32 n (2 ^ ((p - 44032) % 28).toNat % 4294967296)
/-- a syllable's number, and whether it is in the rows. -/
noncomputable def rankOwn (p : Int) : Int := (popSum ((p - 44032) / 28).toNat + pop32 (lowBits (grp ((p - 44032) / 28).toNat) p).toNat : Nat)
noncomputable def rankIn (p : Int) : Bool := !decide (ownBit (grp ((p - 44032) / 28).toNat) p = 0)
noncomputable def rankM (p : Int) : Int := if rankIn p then rankOwn p else p - 44032 - rankOwn p
set_option maxHeartbeats 1000000 in
theorem rank_out (p : Int) (w : World) (h0 : -2147483648 ≤ p) (h1 : p ≤ 2147483647) (h : p < 44032 ∨ 55203 < p) :
    Calls Tryz.prog 167 #[.int .i32 p] w fun e w' => e = .returned (.tuple #[.int .i64 0, .bool false, .bool false]) ∧ Below w.heap.size w w' := by
  rcases h with h | h
  all_goals (
    go_enter Tryz.func167, Tryz.ntmps167
    go_wp2
    go_ret3
    exact ⟨rfl, Below.refl _ _⟩)

set_option maxRecDepth 100000 in
set_option maxHeartbeats 2000000 in
theorem rank_any (p : Int) (w : World) (hp0 : 44032 ≤ p) (hp1 : p ≤ 55203) :
    Calls Tryz.prog 167 #[.int .i32 p] w fun e w' => e = .returned (.tuple #[.int .i64 (rankM p), .bool (rankIn p), .bool true]) ∧ Below w.heap.size w w' := by
  go_enter Tryz.func167, Tryz.ntmps167
  go_wp2
  go_loopw [6, 7] (fun own g wr => ∃ i : Nat, g = .int .i64 (i : Int) ∧ own = .int .i64 (popSum i : Int) ∧ (i : Int) ≤ (p - 44032) / 28 ∧ Below w.heap.size w wr) (fun _ g _ => ((p - 44032) / 28 - intOf g).toNat)
  case atStart => exact ⟨0, rfl, rfl, by omega, Below.refl _ _⟩
  case round =>
    obtain ⟨i, rfl, rfl, hi, hbel⟩ := hrel
    by_cases hlt : (i : Int) < (p - 44032) / 28
    · have c1 := fun w => group_any i w (by omega)
      obtain ⟨g0, g1⟩ := grp_bd i (by omega)
      have c2 := fun w => onesCountZ_any (grp i) w (by omega) (by omega)
      have hs : popSum (i + 1) = popSum i + pop32 (grp i).toNat := rfl
      have hp := pop32_le (grp i).toNat
      have hpl := popSum_le i
      generalize pop32 (grp i).toNat = c at *
      generalize grp i = n at *
      generalize popSum i = s at *
      have C1 := Lib.hid c1
      have C2 := Lib.hid c2
      have HS := Lib.hid hs
      clear c1 c2 hs g0 g1
      go_wp2_with (first
        | (go_at_call 211; refine (C1.out _).mono ?_; rintro e w' ⟨rfl, rfl⟩)
        | (go_at_call 210; refine (C2.out _).mono ?_; rintro e w1 ⟨rfl, hb1⟩))
      go_roundw
      case rel => exact ⟨i + 1, by go_num, by rw [HS.out]; go_num, by omega, bt hbel hb1⟩
      case measure => simp [intOf]; omega
    · have hi2 : (i : Int) = (p - 44032) / 28 := by omega
      have c1 := fun w => group_any i w (by omega)
      obtain ⟨g0, g1⟩ := grp_bd i (by omega)
      rw [hi2] at c1
      have hpl := popSum_le i
      have hi3 : (i : Int) < 399 := by omega
      have it : ((p - 44032) / 28).toNat = i := by omega
      have ho : rankOwn p = (popSum i + pop32 (lowBits (grp i) p).toNat : Nat) := by unfold rankOwn; rw [it]
      have hI : rankIn p = !decide (ownBit (grp i) p = 0) := by unfold rankIn; rw [it]
      have hM : rankM p = if rankIn p then rankOwn p else p - 44032 - rankOwn p := rfl
      have c2 := fun w => onesCountZ_any (lowBits (grp i) p) w (u32_bits_bd _ _ _).1 (u32_bits_bd _ _ _).2
      have hpc := pop32_le (lowBits (grp i) p).toNat
      generalize pop32 (lowBits (grp i) p).toNat = c at *
      generalize popSum i = s at *
      generalize grp i = n at *
      have C1 := Lib.hid c1
      have C2 := Lib.hid c2
      have H2 := Lib.hid hi2
      rw [ho] at hM
      by_cases hz : ownBit n p = 0
      · rw [hI, hz] at hM
        have HI : Hid (rankIn p = false) := by show rankIn p = false; rw [hI, hz]; rfl
        have HM := Lib.hid hM
        have hzB : (bits .and .u32 n (2 ^ ((p - 44032) % 28).toNat % 4294967296) != 0) = false := by simpa [ownBit] using hz
        clear c1 c2 hi2 ho hI hM hz it
        go_wp2_with fail
        with_reducible refine (C1.out _).mono ?_
        rintro e w1 ⟨rfl, rfl⟩
        go_wp2_with fail
        unfold lowBits at C2
        with_reducible refine (C2.out _).mono ?_
        rintro e w1 ⟨rfl, hb1⟩
        go_wp2_with fail
        go_ret3
        exact ⟨by rw [HM.out, HI.out]; simp, bt hbel hb1⟩
      · have hI' : rankIn p = true := by rw [hI]; simpa using hz
        rw [hI'] at hM
        have HI := Lib.hid hI'
        have HM := Lib.hid hM
        have hzB : (bits .and .u32 n (2 ^ ((p - 44032) % 28).toNat % 4294967296) != 0) = true := by simpa [ownBit] using hz
        clear c1 c2 hi2 ho hI hI' hM hz it
        go_wp2_with fail
        with_reducible refine (C1.out _).mono ?_
        rintro e w1 ⟨rfl, rfl⟩
        go_wp2_with fail
        unfold lowBits at C2
        with_reducible refine (C2.out _).mono ?_
        rintro e w1 ⟨rfl, hb1⟩
        go_wp2_with fail
        go_ret3
        exact ⟨by rw [HM.out, HI.out]; simp, bt hbel hb1⟩
end Go.Proofs.YtogknbpmgflpgaaGreatDoor
