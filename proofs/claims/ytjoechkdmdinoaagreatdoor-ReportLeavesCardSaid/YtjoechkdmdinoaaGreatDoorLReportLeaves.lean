/- Sums of texts: by the reference (layers 1 and 16). -/
import Derived.Test.YtjoechkdmdinoaaGreatDoorMSv
import Derived.Test.YtjoechkdmdinoaaGreatDoorMCy
import Derived.Test.YtjoechkdmdinoaaGreatDoorMTv
import Derived.Test.YtjoechkdmdinoaaGreatDoorHY
import Derived.Test.YtjoechkdmdinoaaGreatDoorHX
import Derived.ChangeMaps5
import Derived.Test.YtjoechkdmdinoaaGreatDoorKReportLeaves
import Derived.Test.YtjoechkdmdinoaaGreatDoorKy
import Derived.Test.YtjoechkdmdinoaaGreatDoorKt
set_option linter.unusedVariables false
set_option linter.unusedSimpArgs false
set_option maxHeartbeats 4000000
namespace Go.Proofs.YtjoechkdmdinoaaGreatDoor
open Go.RowKit
theorem wrapsu64 (n : Int) (h₀ : 0 ≤ n) (h₁ : n < 2 ^ 64) : IntKind.u64.wrap n = n := by rw [IntKind.wrap_u64]; omega
def crcN (l : List UInt8) : Nat := (crcF 0 l).toNat
theorem crcN_lt (l : List UInt8) : crcN l < 4294967296 := by
 have := crcF_bd l 0 (by omega)
 unfold crcN
 omega
theorem rsize_any (w : World) : Calls Tryz.prog 184 #[.int .i64 4] w fun e w' => e = .returned (.int .i64 4) ∧ w = w' := by
 go_enter Tryz.func184, Tryz.ntmps184
 go_wp2
 go_ret
 exact ⟨rfl, rfl⟩
theorem rsmall_any (n : Nat) (w : World) (hn : n < 4294967296) : Calls Tryz.prog 105 #[.int .u64 (n : Int), .int .i64 4] w fun e w' => e = .returned (.string (numS n)) ∧ Below w.heap.size w w' := by
 have K1 := Lib.hid rsize_any
 have hcv : ∀ (x : Int) (W : World), 0 ≤ x → (convert 77 9 (.slice (some ⟨W.heap.size, 0, none⟩) 1 1)).run Tryz.prog (W.alloc (.cells #[.int .u8 (x % 256)] 5)) = .ok (.string ⟨#[UInt8.ofNat (x % 256).toNat]⟩) (W.alloc (.cells #[.int .u8 (x % 256)] 5)) := by
  intro x W hx
  have h := conv_own (l := [UInt8.ofNat (x % 256).toNat]) 77 9 Tryz.underlying77 Tryz.underlying5 Tryz.underlying9 (World.ownsRow_lit (size := 1) (base := W.heap.size) W #[.int .u8 ((UInt8.ofNat (x % 256).toNat).toNat : Int)] 1 (Nat.le_refl _) (by unfold maxLen; omega) rfl)
  rw [byte_wrap x hx] at h
  exact h
 have hE : numS n = ⟨(leL n 4).toArray⟩ := by unfold numS; rw [leL_4]
 rw [hE]
 clear hE
 have HCV := Lib.hid hcv
 clear hcv
 go_enter Tryz.func105, Tryz.ntmps105
 go_wp2
 go_loopw [0, 5, 6] (fun q s i wr => ∃ (k : Nat) (x : Int) (T : ByteArray), k ≤ 4 ∧ T.size = k ∧ 0 ≤ x ∧ x ≤ n ∧ q = .int .u64 x ∧ s = .string T ∧ i = .int .i64 (k : Int) ∧ Hid (leL n 4 = bl T ++ leL x (4 - k)) ∧ Below w.heap.size w wr) (fun _ _ i _ => 4 - (intOf i).toNat)
 case atStart => exact ⟨0, n, ⟨#[]⟩, Nat.zero_le _, rfl, by omega, Int.le_refl _, rfl, rfl, rfl, Lib.hid (by simp), Below.refl _ _⟩
 case round =>
  obtain ⟨k, x, T, hk, hpl, hx0, hx1, rfl, rfl, rfl, hbig, hbel⟩ := hrel
  by_cases hlt : k < 4
  · obtain ⟨j, hj⟩ : ∃ j, 4 - k = j + 1 := ⟨4 - k - 1, by omega⟩
    have hb2 := hbig.out
    rw [hj, show leL x (j + 1) = UInt8.ofNat (x % 256).toNat :: leL (x / 256) j from rfl] at hb2
    have hj2 : 4 - (k + 1) = j := by omega
    have hcv := fun W => HCV.out x W hx0
    have hw8 : IntKind.u8.wrap (x % 256) = x % 256 := wraps_u8 _ (by omega) (by omega)
    have hbx := bal hbel (.cells #[.int .u8 (x % 256)] 5)
    have hTs : T.size ≤ 4 := by omega
    have HB2 := Lib.hid hb2
    have HJ2 := Lib.hid hj2
    have HPL := Lib.hid hpl
    have HBX := Lib.hid hbx
    clear hb2 hj2 hpl hbx
    clear hbig hj
    generalize UInt8.ofNat (x % 256).toNat = bb at *
    go_wp2_with (go_at_call 184; refine (K1.out _).mono ?_; rintro e w1 ⟨rfl, rfl⟩)
    exact ⟨⟨k + 1, x / 256, T ++ ⟨#[bb]⟩, by omega, by rw [ByteArray.size_append, HPL.out]; rfl, by omega, by omega, rfl, rfl, by go_num, Lib.hid (by rw [HB2.out, HJ2.out]; show _ = (T ++ ⟨#[bb]⟩).data.toList ++ _; rw [ByteArray.data_append, Array.toList_append]; simp), HBX.out⟩, by simp [intOf]; omega⟩
  · have hk4 : k = 4 := by omega
    have hb2 := hbig.out
    rw [show 4 - k = 0 by omega, show leL x 0 = [] from rfl, List.append_nil] at hb2
    have HB2 := Lib.hid hb2
    clear hb2
    clear hbig hk4
    go_wp2_with (go_at_call 184; refine (K1.out _).mono ?_; rintro e w1 ⟨rfl, rfl⟩)
    go_ret
    exact ⟨ret_s (by rw [HB2.out]), hbel⟩
def stK (n : Nat) : Nat := if n / 2147483648 % 2 = 1 then (n * 2 % 4294967296) ^^^ 79764919 else n * 2 % 4294967296
def rbK (n b : Nat) : Nat := if (n / 2147483648 + b) % 2 = 1 then (n * 2 % 4294967296) ^^^ 79764919 else n * 2 % 4294967296
def rK (n c : Nat) : Nat → Nat
 | 0 => n
 | k + 1 => rbK (rK n c k) (c / 2 ^ (7 - k))
theorem dbl_xor (a b : Nat) : (a ^^^ b) * 2 % 4294967296 = (a * 2 % 4294967296) ^^^ (b * 2 % 4294967296) := by
 have h1 : (a ^^^ b) * 2 = (a * 2) ^^^ (b * 2) := by
  have := Nat.shiftLeft_xor_distrib (a := a) (b := b) (i := 1)
  simpa [Nat.shiftLeft_eq] using this
 have h2 := Nat.xor_mod_two_pow (a := a * 2) (b := b * 2) (n := 32)
 rw [h1]
 exact h2
theorem top_xor (a b : Nat) : (a ^^^ b) / 2147483648 % 2 = (a / 2147483648 % 2) ^^^ (b / 2147483648 % 2) := by
 have h1 := Nat.xor_div_two_pow (a := a) (b := b) (n := 31)
 have h2 := Nat.xor_mod_two_pow (a := a / 2147483648) (b := b / 2147483648) (n := 1)
 rw [show (2147483648 : Nat) = 2 ^ 31 from rfl] at h2 ⊢
 rw [h1]
 exact h2
theorem stK_xor (a b : Nat) : stK (a ^^^ b) = stK a ^^^ stK b := by
 unfold stK
 rw [dbl_xor, top_xor]
 generalize a * 2 % 4294967296 = x
 generalize b * 2 % 4294967296 = y
 rcases Nat.mod_two_eq_zero_or_one (a / 2147483648) with h | h <;> rcases Nat.mod_two_eq_zero_or_one (b / 2147483648) with h' | h' <;> rw [h, h']
 · rfl
 · show x ^^^ y ^^^ 79764919 = x ^^^ (y ^^^ 79764919)
   rw [Nat.xor_assoc]
 · show x ^^^ y ^^^ 79764919 = x ^^^ 79764919 ^^^ y
   rw [Nat.xor_assoc, Nat.xor_assoc, Nat.xor_comm y]
 · show x ^^^ y = x ^^^ 79764919 ^^^ (y ^^^ 79764919)
   rw [Nat.xor_assoc, Nat.xor_comm y, ← Nat.xor_assoc 79764919, Nat.xor_self, Nat.zero_xor]
theorem rbK_st (n b : Nat) : rbK n b = stK n ^^^ (if b % 2 = 1 then 79764919 else 0) := by
 unfold rbK stK
 generalize n * 2 % 4294967296 = x
 rcases Nat.mod_two_eq_zero_or_one (n / 2147483648) with h | h <;> rcases Nat.mod_two_eq_zero_or_one b with h' | h' <;> rw [h, h']
 · rw [if_neg (by omega), if_neg (by decide), if_neg (by decide), Nat.xor_zero]
 · rw [if_pos (by omega), if_neg (by decide), if_pos rfl]
 · rw [if_pos (by omega), if_pos rfl, if_neg (by decide), Nat.xor_zero]
 · rw [if_neg (by omega), if_pos rfl, if_pos rfl, Nat.xor_assoc, Nat.xor_self, Nat.xor_zero]
def stP : Nat → Nat → Nat
 | 0, n => n
 | k + 1, n => stK (stP k n)
theorem stP_xor (a b : Nat) : ∀ k, stP k (a ^^^ b) = stP k a ^^^ stP k b
 | 0 => rfl
 | k + 1 => by rw [stP, stP_xor a b k, stK_xor]; rfl
theorem stP_add (a b : Nat) (n : Nat) : stP (a + b) n = stP a (stP b n) := by
 induction a with
 | zero => rw [Nat.zero_add]; rfl
 | succ a ih => rw [Nat.add_right_comm, stP, ih]; rfl
theorem rK_lin (n c : Nat) : ∀ k, rK n c k = stP k n ^^^ rK 0 c k
 | 0 => by rw [rK, rK, stP, Nat.xor_zero]
 | k + 1 => by rw [rK, rK_lin n c k, rbK_st, stK_xor, Nat.xor_assoc, ← rbK_st]; rfl
theorem rK_byte : ∀ c, c < 256 → rK 0 c 8 = stP 8 (c * 16777216) := by decide +kernel
theorem low_add (x h l : Nat) (hx : x = h * 268435456 + l) (hl : l < 268435456) : x = (h * 268435456) ^^^ l := by
 have h1 : h * 268435456 = h <<< 28 := by rw [Nat.shiftLeft_eq]
 rw [hx, h1, Nat.shiftLeft_add_eq_or_of_lt (by omega)]
 apply Nat.eq_of_testBit_eq
 intro i
 rw [Nat.testBit_or, Nat.testBit_xor, Nat.testBit_shiftLeft]
 by_cases hi : i < 28
 · simp [show ¬ 28 ≤ i by omega]
 · rw [Nat.testBit_lt_two_pow (x := l) (i := i) (Nat.lt_of_lt_of_le (show l < 2 ^ 28 by omega) (Nat.pow_le_pow_right (by decide) (by omega)))]
   simp
theorem stP_low : ∀ (k l : Nat), k ≤ 4 → l < 268435456 → stP k l = l * 2 ^ k
 | 0, l, _, _ => by rw [stP]; omega
 | k + 1, l, hk, hl => by
  rw [stP, stP_low k l (by omega) hl]
  have h1 : (2 : Nat) ^ k ≤ 8 := by
   have : (2 : Nat) ^ k ≤ 2 ^ 3 := Nat.pow_le_pow_right (by decide) (by omega)
   omega
  have h2 : l * 2 ^ k ≤ l * 8 := Nat.mul_le_mul_left _ h1
  unfold stK
  rw [if_neg (by omega), Nat.pow_succ, ← Nat.mul_assoc]
  omega
theorem hv_nat : ∀ k, k < 16 → hv k = (stP 4 (k * 268435456) : Nat) := by decide +kernel
theorem xor32 (a b : Nat) (ha : a < 4294967296) (hb : b < 4294967296) : bits .xor .u32 (a : Int) (b : Int) = ((a ^^^ b : Nat) : Int) := by
 have h1 : (BitVec.ofInt 32 (a : Int)).toNat = a := by simp; omega
 have h2 : (BitVec.ofInt 32 (b : Int)).toNat = b := by simp; omega
 have h3 : a ^^^ b < 2 ^ 32 := Nat.xor_lt_two_pow (by omega) (by omega)
 unfold bits
 simp only
 rw [BitVec.toNat_xor]
 show IntKind.u32.wrap (((BitVec.ofInt 32 (a : Int)).toNat ^^^ (BitVec.ofInt 32 (b : Int)).toNat : Nat) : Int) = _
 rw [h1, h2, IntKind.wrap_u32]
 omega
theorem stK_lt (n : Nat) : stK n < 4294967296 := by
 unfold stK
 split
 · exact Nat.xor_lt_two_pow (n := 32) (by omega) (by omega)
 · omega
theorem stP_lt (k n : Nat) : stP (k + 1) n < 4294967296 := stK_lt _
theorem nib_nat (x : Nat) (hx : x < 4294967296) : nibI (x : Int) = (stP 4 x : Nat) := by
 obtain ⟨h, l, e, hh, hl⟩ : ∃ h l, x = h * 268435456 + l ∧ h < 16 ∧ l < 268435456 := ⟨x / 268435456, x % 268435456, by omega, by omega, by omega⟩
 have e1 := low_add x h l e hl
 have e2 : ((x : Int) / 268435456).toNat = h := by omega
 have e3 : (x : Int) * 16 % 4294967296 = ((l * 16 : Nat) : Int) := by omega
 unfold nibI
 rw [e2, e3, hv_nat h hh, xor32 _ _ (by omega) (stP_lt 3 _)]
 congr 1
 rw [e1, stP_xor, stP_low 4 l (by omega) hl, Nat.xor_comm]
theorem crc_nat (n : Nat) (c : UInt8) (hn : n < 4294967296) : crcI (n : Int) c = (rK n c.toNat 8 : Nat) := by
 have hc := c.toNat_lt
 have h1 : ((c.toNat : Int) * 16777216) = ((c.toNat * 16777216 : Nat) : Int) := by omega
 have h2 : n ^^^ (c.toNat * 16777216) < 4294967296 := Nat.xor_lt_two_pow (n := 32) (by omega) (by omega)
 unfold crcI
 rw [h1, xor32 _ _ hn (by omega), nib_nat _ h2, nib_nat _ (stP_lt 3 _), ← stP_add, rK_lin n c.toNat 8, rK_byte _ (by omega), stP_xor]
theorem xor64 (a b : Nat) (ha : a < 4294967296) (hb : b < 4294967296) : bits .xor .u64 (a : Int) (b : Int) = ((a ^^^ b : Nat) : Int) := by
 have h1 : (BitVec.ofInt 64 (a : Int)).toNat = a := by simp; omega
 have h2 : (BitVec.ofInt 64 (b : Int)).toNat = b := by simp; omega
 have h3 : a ^^^ b < 2 ^ 32 := Nat.xor_lt_two_pow (by omega) (by omega)
 unfold bits
 simp only
 rw [BitVec.toNat_xor]
 show IntKind.u64.wrap (((BitVec.ofInt 64 (a : Int)).toNat ^^^ (BitVec.ofInt 64 (b : Int)).toNat : Nat) : Int) = _
 rw [h1, h2, IntKind.wrap_u64]
 omega
theorem rbK_lt (n b : Nat) : rbK n b < 4294967296 := by
 unfold rbK
 split
 · exact Nat.xor_lt_two_pow (n := 32) (by omega) (by omega)
 · omega
theorem rK_lt (n c : Nat) (hn : n < 4294967296) : ∀ k, rK n c k < 4294967296
 | 0 => hn
 | k + 1 => rbK_lt _ _
theorem rstep_any (n : Nat) (c : UInt8) (w : World) (hn : n < 4294967296) : Calls Tryz.prog 185 #[.int .u64 (n : Int), .int .u8 c.toNat] w fun e w' => e = .returned (.int .u64 (rK n c.toNat 8 : Nat)) ∧ w = w' := by
 have hc := c.toNat_lt
 generalize c.toNat = b at *
 have hwb : IntKind.u64.wrap (b : Int) = b := wrapsu64 _ (by omega) (by omega)
 go_enter Tryz.func185, Tryz.ntmps185
 go_wp2_with fail
 go_loop [0, 5] (fun sv iv => ∃ k : Nat, sv = .int .u64 ((rK n b k : Nat) : Int) ∧ iv = .int .i64 (7 - (k : Int)) ∧ k ≤ 8) (fun _ iv => (intOf iv + 1).toNat)
 case atStart => exact ⟨0, rfl, rfl, Nat.zero_le _⟩
 case round =>
  obtain ⟨k, rfl, rfl, hk⟩ := hrel
  by_cases hlt : k < 8
  · have hx := rK_lt n b hn k
    have hst : rK n b (k + 1) = rbK (rK n b k) (b / 2 ^ (7 - k)) := rfl
    generalize rK n b k = x at *
    have hge : (7 : Int) - k ≥ 0 := by omega
    go_wp2_with fail
    go_loop [6, 7] (fun bv jv => ∃ j : Nat, bv = .int .u64 ((b / 2 ^ j : Nat) : Int) ∧ jv = .int .i64 (j : Int) ∧ j ≤ 7 - k) (fun _ jv => 7 - k - (intOf jv).toNat)
    case atStart => exact ⟨0, by simp, rfl, Nat.zero_le _⟩
    case round =>
     obtain ⟨j, rfl, rfl, hj⟩ := hrel
     by_cases hl2 : j < 7 - k
     · have hy : b / 2 ^ (j + 1) = b / 2 ^ j / 2 := by rw [Nat.pow_succ, Nat.div_div_eq_div_mul]
       have HY := Lib.hid hy
       have hj1 : (j : Int) < 7 - (k : Int) := by omega
       have hyl : b / 2 ^ j ≤ b := Nat.div_le_self _ _
       generalize b / 2 ^ j = y at *
       have hwy : IntKind.u64.wrap ((y : Int) / 2) = (y : Int) / 2 := wrapsu64 _ (by omega) (by omega)
       clear hy
       go_wp2_with fail
       go_round
       case rel => exact ⟨j + 1, by rw [HY.out]; congr 1, by go_num, by omega⟩
       case measure => simp [intOf]; omega
     · have hje : j = 7 - k := by omega
       have hj1 : ¬ (j : Int) < 7 - (k : Int) := by omega
       rw [← hje] at hst
       have hy : b / 2 ^ j ≤ b := Nat.div_le_self _ _
       generalize b / 2 ^ j = y at *
       have hw1 : IntKind.u64.wrap ((x : Int) / 2147483648 + (y : Int)) = (x : Int) / 2147483648 + (y : Int) := wrapsu64 _ (by omega) (by omega)
       have hw2 : IntKind.u64.wrap ((x : Int) * 2) = (x : Int) * 2 := wrapsu64 _ (by omega) (by omega)
       have hxo : bits .xor .u64 ((x : Int) * 2 % 4294967296) 79764919 = (((x * 2 % 4294967296) ^^^ 79764919 : Nat) : Int) := by
        rw [show (x : Int) * 2 % 4294967296 = ((x * 2 % 4294967296 : Nat) : Int) by omega]
        exact xor64 _ 79764919 (by omega) (by decide)
       have hwi : IntKind.i64.wrap (7 - (k : Int) - 1) = 7 - (k : Int) - 1 := wi64 _ (by omega) (by omega)
       by_cases hb : (x / 2147483648 + y) % 2 = 1
       · have hs : rK n b (k + 1) = (x * 2 % 4294967296) ^^^ 79764919 := by rw [hst]; unfold rbK; rw [if_pos hb]
         have hd : ((x : Int) / 2147483648 + (y : Int)) % 2 = 1 := by omega
         have HS := Lib.hid hs
         clear hst hs hb
         go_wp2_with fail
         go_round
         case rel => exact ⟨k + 1, by rw [HS.out], by congr 1; omega, by omega⟩
         case measure => simp [intOf]; omega
       · have hs : rK n b (k + 1) = x * 2 % 4294967296 := by rw [hst]; unfold rbK; rw [if_neg hb]
         have hd : ((x : Int) / 2147483648 + (y : Int)) % 2 = 0 := by omega
         have HS := Lib.hid hs
         clear hst hs hb
         go_wp2_with fail
         go_round
         case rel => exact ⟨k + 1, by rw [HS.out]; congr 1, by congr 1; omega, by omega⟩
         case measure => simp [intOf]; omega
  · have hk8 : k = 8 := by omega
    subst hk8
    go_wp2_with fail
    go_ret
    exact ⟨rfl, rfl⟩
theorem crcF_snoc (s : Int) (l : List UInt8) (c : UInt8) : crcF s (l ++ [c]) = crcI (crcF s l) c := by rw [crcF_append]; rfl
theorem rof16_any (s : ByteArray) (w : World) (hs : s.size ≤ 1073741824) : Calls Tryz.prog 106 #[.int .u64 0, .string s] w fun e w' => e = .returned (.int .u64 (crcN (bl s) : Nat)) ∧ w = w' := by
 have HL : Hid ((bl s).length = s.size) := bl_length s
 go_enter Tryz.func106, Tryz.ntmps106
 go_wp2_with fail
 go_loop [0, 5] (fun sv iv => ∃ k : Nat, sv = .int .u64 (crcF 0 ((bl s).take k)) ∧ iv = .int .i64 (k : Int) ∧ k ≤ s.size) (fun _ iv => s.size - (intOf iv).toNat)
 case atStart => exact ⟨0, rfl, rfl, Nat.zero_le _⟩
 case round =>
  obtain ⟨k, rfl, rfl, hk⟩ := hrel
  by_cases hlt : k < s.size
  · obtain ⟨b, hb⟩ := at_some (bl s) k (by rw [HL.out]; exact hlt)
    have X : ∀ h, s[k]'h = b := atB_of s k b hb
    obtain ⟨h1, h2⟩ := List.getElem?_eq_some_iff.1 hb
    have hst : crcF 0 ((bl s).take (k + 1)) = crcI (crcF 0 ((bl s).take k)) b := by rw [List.take_succ_eq_append_getElem h1, h2, crcF_snoc]
    obtain ⟨x, hx, hx2⟩ : ∃ x : Nat, crcF 0 ((bl s).take k) = (x : Int) ∧ x < 4294967296 := by
     obtain ⟨q1, q2⟩ := crcF_bd ((bl s).take k) 0 (by omega)
     exact ⟨(crcF 0 ((bl s).take k)).toNat, by omega, by omega⟩
    rw [hx] at hst ⊢
    rw [crc_nat x b hx2] at hst
    have k1 := fun w => rstep_any x b w hx2
    have HST := Lib.hid hst
    have K1 := Lib.hid k1
    have j0 : (0 : Int) ≤ (k : Int) := by omega
    have j1 : (k : Int) < (s.size : Int) := by omega
    clear hst hb h1 h2 hx k1
    go_wp2_with (go_at_call 185; go_loud (with_reducible refine (K1.out _).mono ?_); go_loud (rintro e w1 ⟨rfl, rfl⟩))
    go_round
    case rel => exact ⟨k + 1, by rw [HST.out], by go_num, by omega⟩
    case measure => simp [intOf]; omega
  · have hx : crcF 0 ((bl s).take k) = (crcN (bl s) : Nat) := by
     rw [List.take_of_length_le (by rw [HL.out]; omega)]
     have := (crcF_bd (bl s) 0 (by omega)).1
     unfold crcN
     omega
    rw [hx]
    go_wp2_with fail
    go_ret
    exact ⟨rfl, rfl⟩
theorem crcN_eq (l : List UInt8) : (crcN l : Int) = crcF 0 l := by
 have := crcF_bd l 0 (by omega)
 unfold crcN
 omega
end Go.Proofs.YtjoechkdmdinoaaGreatDoor
namespace Go.Proofs.YtjoechkdmdinoaaGreatDoor.reportLeaves
open Go Go.Rf Go.RowKit Go.Shelf Go.Lib
set_option linter.unusedVariables false
set_option linter.unusedSimpArgs false
/- signs: 0 name, 1 text, 2 the text's size, 3 4 both in quotes, 5 the size's digits, 6 7 the sum, 8 its bytes, 9 their digits, 10 size and sum, 11 the size and a blank, 12 the line, 13 14 its beginnings, 15 the name's size -/
def rawL : List UInt8 := [114, 97, 119, 32]
def texL : List UInt8 := [116, 101, 120, 116, 32]
def lens : List LenF := [(0, .sym 15), (1, .sym 2)]
def tn : Told := { b := [(.gtr, .sym 15, lI 200, lB true)], l := lens }
def tt : Told := { b := [(.gtr, .sym 15, lI 200, lB false), (.gtr, .sym 2, lI 1000, lB true)], l := lens }
def tr : Told :=
  { b := [(.gtr, .sym 15, lI 200, lB false), (.gtr, .sym 2, lI 1000, lB false), (.add, .sym 5, lS [32], .sym 11), (.add, .sym 11, .sym 9, .sym 10), (.add, lS rawL, .sym 3, .sym 13), (.add, .sym 13, lS [32], .sym 14), (.add, .sym 14, .sym 10, .sym 12), (.eql, .sym 12, .sym 12, lB true)]
    l := lens
    c := [(24, [.a (.sym 0)], one1 (.sym 3)), (25, [.a (.sym 0)], one1 (.sym 3)), (62, [.a (.sym 2)], one1 (.sym 5)), (30, [.a (.sym 2)], one1 (.sym 5)), (104, [.a (.sym 6)], one1 (.sym 8)), (21, [.a (.sym 8)], one1 (.sym 9)), (23, [.a (.sym 8)], one1 (.sym 9)), (106, [.a (.lit (.int .u64 0)), .a (.sym 1)], one1 (.sym 7)), (105, [.a (.sym 7), .a (lI 4)], one1 (.sym 8))]
    w := [(103, [.sym 1], one1 (.sym 6)), (55, [.sym 5, lS [32], .sym 9], one1 (.sym 10)), (55, [lS rawL, .sym 3, lS [32], .sym 10], one1 (.sym 12))] }
def tx : Told :=
  { b := [(.gtr, .sym 15, lI 200, lB false), (.gtr, .sym 2, lI 1000, lB false), (.add, lS texL, .sym 3, .sym 13), (.add, .sym 13, lS [32], .sym 14), (.add, .sym 14, .sym 4, .sym 12), (.eql, .sym 12, .sym 12, lB true)]
    l := lens
    c := [(24, [.a (.sym 0)], one1 (.sym 3)), (25, [.a (.sym 0)], one1 (.sym 3)), (24, [.a (.sym 1)], one1 (.sym 4)), (25, [.a (.sym 1)], one1 (.sym 4))]
    w := [(55, [lS texL, .sym 3, lS [32], .sym 4], one1 (.sym 12))] }
theorem rn1 : symEv tn 6 [.g [.sym 0, lB true, .sym 1]] = some (one1 (lB true)) := by kernel_rfl
theorem rn0 : symEv tn 6 [.g [.sym 0, lB false, .sym 1]] = some (one1 (lB true)) := by kernel_rfl
theorem rt1 : symEv tt 6 [.g [.sym 0, lB true, .sym 1]] = some (one1 (lB true)) := by kernel_rfl
theorem rt0 : symEv tt 6 [.g [.sym 0, lB false, .sym 1]] = some (one1 (lB true)) := by kernel_rfl
theorem rr : symEv tr 6 [.g [.sym 0, lB true, .sym 1]] = some (one1 (lB true)) := by kernel_rfl
theorem rx : symEv tx 6 [.g [.sym 0, lB false, .sym 1]] = some (one1 (lB true)) := by kernel_rfl
theorem walk (nm tx_ : ByteArray) (raw : Bool) (w : World) (hT : GW w ∧ PT w) :
    Calls Tryz.prog 6 #[.agg #[.string nm, .bool raw, .string tx_]] w fun e w' => e = .returned (.bool true) ∧ Below w.heap.size w w' := by
  obtain ⟨hG, hP⟩ := hT
  obtain ⟨n, hn⟩ : ∃ n, n = tx_.size := ⟨_, rfl⟩
  obtain ⟨Qn, hQn⟩ : ∃ Q : ByteArray, Q = ⟨(quT (bl nm)).toArray⟩ := ⟨_, rfl⟩
  obtain ⟨Qt, hQt⟩ : ∃ Q : ByteArray, Q = ⟨(quT (bl tx_)).toArray⟩ := ⟨_, rfl⟩
  obtain ⟨D, hD⟩ : ∃ D : ByteArray, D = ⟨(decDigits n).toArray⟩ := ⟨_, rfl⟩
  obtain ⟨c, hc⟩ : ∃ c, c = crcN (bl tx_) := ⟨_, rfl⟩
  obtain ⟨SB, hSB⟩ : ∃ S : ByteArray, S = numS c := ⟨_, rfl⟩
  obtain ⟨HX, hHX⟩ : ∃ H : ByteArray, H = ⟨(hxL (bl SB)).toArray⟩ := ⟨_, rfl⟩
  obtain ⟨S11, h11⟩ : ∃ S : ByteArray, S = D ++ ⟨⟨[32]⟩⟩ := ⟨_, rfl⟩
  obtain ⟨S10, h10⟩ : ∃ S : ByteArray, S = S11 ++ HX := ⟨_, rfl⟩
  obtain ⟨S13, h13⟩ : ∃ S : ByteArray, S = (if raw then ⟨⟨rawL⟩⟩ else ⟨⟨texL⟩⟩) ++ Qn := ⟨_, rfl⟩
  obtain ⟨S14, h14⟩ : ∃ S : ByteArray, S = S13 ++ ⟨⟨[32]⟩⟩ := ⟨_, rfl⟩
  obtain ⟨S12, h12⟩ : ∃ S : ByteArray, S = S14 ++ (if raw then S10 else Qt) := ⟨_, rfl⟩
  letI := sgL [.string nm, .string tx_, .int .i64 tx_.size, .string Qn, .string Qt, .string D, .int .u32 (c : Int), .int .u64 (c : Int), .string SB, .string HX, .string S10, .string S11, .string S12, .string S13, .string S14, .int .i64 nm.size] ⟨okS_str _, okS_str _, okS_int _ _, okS_str _, okS_str _, okS_str _, okS_int _ _, okS_int _ _, okS_str _, okS_str _, okS_str _, okS_str _, okS_str _, okS_str _, okS_str _, okS_int _ _, trivial⟩
  have hL : AllP LenOk lens := ⟨⟨nm, rfl, fun _ => rfl⟩, ⟨tx_, rfl, fun _ => rfl⟩, trivial⟩
  have hv : dens1 (fun _ => none) [.g [.sym 0, lB raw, .sym 1]] = some [.agg #[.string nm, .bool raw, .string tx_]] := rfl
  by_cases s1 : nm.size > 200
  · have hTT : ToldOk w tn := ⟨⟨bok_gtr (a := nm.size) (c := 200) (k := .i64) (fun _ => rfl) (fun _ => rfl) (by simp; omega), trivial⟩, trivial, trivial, hL, trivial, trivial, trivial⟩
    cases raw with
    | true => exact sym_to (vals := [.agg #[.string nm, .bool true, .string tx_]]) hG hTT rfl rn1 (fun _ => rfl)
    | false => exact sym_to (vals := [.agg #[.string nm, .bool false, .string tx_]]) hG hTT rfl rn0 (fun _ => rfl)
  · have b1 : BOk (.gtr, .sym 15, lI 200, lB false) := bok_gtr (a := nm.size) (c := 200) (k := .i64) (fun _ => rfl) (fun _ => rfl) (by simp; omega)
    by_cases s2 : tx_.size > 1000
    · have hTT : ToldOk w tt := ⟨⟨b1, bok_gtr (a := tx_.size) (c := 1000) (k := .i64) (fun _ => rfl) (fun _ => rfl) (by simp; omega), trivial⟩, trivial, trivial, hL, trivial, trivial, trivial⟩
      cases raw with
      | true => exact sym_to (vals := [.agg #[.string nm, .bool true, .string tx_]]) hG hTT rfl rt1 (fun _ => rfl)
      | false => exact sym_to (vals := [.agg #[.string nm, .bool false, .string tx_]]) hG hTT rfl rt0 (fun _ => rfl)
    · have b2 : BOk (.gtr, .sym 2, lI 1000, lB false) := bok_gtr (a := tx_.size) (c := 1000) (k := .i64) (fun _ => rfl) (fun _ => rfl) (by simp; omega)
      have hcb : c < 4294967296 := by rw [hc]; exact crcN_lt _
      have hcc : crcF 0 (bl tx_) = (c : Int) := by rw [hc]; exact (crcN_eq _).symm
      have hDs : D.size ≤ 1000 := by rw [hD]; exact digits_size n (by omega)
      have qz : ∀ (x : ByteArray) (Q : ByteArray), Q = ⟨(quT (bl x)).toArray⟩ → Q.size ≤ 4 * x.size + 2 := by
        rintro x _ rfl
        have := quL_length (bl x)
        show (quT (bl x)).toArray.size ≤ _
        unfold quT
        rw [bl_length] at this
        simp
        omega
      have hQz := qz nm Qn hQn
      have hQtz := qz tx_ Qt hQt
      have hSBz : SB.size = 4 := by rw [hSB]; rfl
      have hHXz : HX.size = 8 := by rw [hHX]; show (hxL (bl SB)).toArray.size = _; simp [hxL_length, bl_length, hSBz]
      have z : ∀ a b : ByteArray, (a ++ b).size = a.size + b.size := fun a b => ByteArray.size_append
      have z1 : (⟨⟨[32]⟩⟩ : ByteArray).size = 1 := rfl
      have zr : (⟨⟨rawL⟩⟩ : ByteArray).size = 4 := rfl
      have zt : (⟨⟨texL⟩⟩ : ByteArray).size = 5 := rfl
      have z11 : S11.size = D.size + 1 := by rw [h11, z, z1]
      have z10 : S10.size = S11.size + 8 := by rw [h10, z, hHXz]
      have z13 : S13.size ≤ 5 + Qn.size := by rw [h13, z]; split <;> omega
      have z14 : S14.size = S13.size + 1 := by rw [h14, z, z1]
      have kq : ∀ (x Q : ByteArray), Q = ⟨(quT (bl x)).toArray⟩ → x.size ≤ 1000 → ∀ w', Calls Tryz.prog 24 #[.string x] w' fun e w'' => e = .returned (.string Q) ∧ Below w'.heap.size w' w'' := by
        rintro x _ rfl hx w'
        exact pquote_any x w' (by omega)
      have kr : ∀ (x Q : ByteArray), Q = ⟨(quT (bl x)).toArray⟩ → x.size ≤ 1000 → ∀ w', Calls Tryz.prog 25 #[.string x] w' fun e w'' => e = .returned (.string Q) ∧ Below w'.heap.size w' w'' := by
        rintro x _ rfl hx w'
        exact rquote_any x w' (by omega)
      have c1 := kq nm Qn hQn (by omega)
      have c2 := kr nm Qn hQn (by omega)
      cases raw with
      | true =>
        rw [if_pos rfl] at h13 h12
        have c3 : ∀ w', Below w.heap.size w w' → Calls Tryz.prog 62 #[.int .i64 tx_.size] w' fun e w'' => e = .returned (.string D) ∧ Below w'.heap.size w' w'' := fun w' hb => by rw [hD, ← hn]; exact itoa_any n (by omega) w' (pt_bel hP hb)
        have c4 : ∀ w', Calls Tryz.prog 30 #[.int .i64 tx_.size] w' fun e w'' => e = .returned (.string D) ∧ Below w'.heap.size w' w'' := fun w' => by rw [hD, ← hn]; exact rdigits_any n w' (by omega)
        have c5 : ∀ w', Calls Tryz.prog 104 #[.int .u32 (c : Int)] w' fun e w'' => e = .returned (.string SB) ∧ Below w'.heap.size w' w'' := fun w' => by
          have := sbytes_any (c : Int) w' ⟨by omega, by omega⟩
          rw [leL_4] at this
          rw [hSB]
          exact this
        have c6 : ∀ w', Calls Tryz.prog 21 #[.string SB] w' fun e w'' => e = .returned (.string HX) ∧ Below w'.heap.size w' w'' := fun w' => by rw [hHX]; exact phex_any SB w' (by omega)
        have c7 : ∀ w', Calls Tryz.prog 23 #[.string SB] w' fun e w'' => e = .returned (.string HX) ∧ Below w'.heap.size w' w'' := fun w' => by rw [hHX]; exact rhex_any SB w' (by omega)
        have c8 : ∀ w', Calls Tryz.prog 106 #[.int .u64 0, .string tx_] w' fun e w'' => e = .returned (.int .u64 (c : Int)) ∧ Below w'.heap.size w' w'' := fun w' => by
          rw [hc]
          exact (rof16_any tx_ w' (by omega)).mono fun e w'' q => ⟨q.1, by rw [← q.2]; exact Below.refl _ _⟩
        have c9 : ∀ w', Calls Tryz.prog 105 #[.int .u64 (c : Int), .int .i64 4] w' fun e w'' => e = .returned (.string SB) ∧ Below w'.heap.size w' w'' := fun w' => by rw [hSB]; exact rsmall_any c w' hcb
        have ws : WOk w (103, [.sym 1], one1 (.sym 6)) := by
          refine ⟨[.string tx_], _, fun _ => rfl, fun _ => rfl, fun w' hb b o cap hlt hcap hx => ?_⟩
          have hrow : Row w' (.slice (some ⟨b, o, none⟩) 1 cap) ([tx_] : List ByteArray).length (scells [tx_]) := by
            refine ⟨_, _, rfl, fun j x hj => ⟨b, o, rfl, ?_⟩⟩
            exact hx j x hj
          have := sof_any [tx_] _ w' hrow (by intro t ht; simp at ht; subst ht; omega) (by simp)
          simp only [List.map_cons, List.map_nil, List.flatten_cons, List.flatten_nil, List.append_nil, hcc] at this
          exact this
        have f10 : ([D, ⟨⟨[32]⟩⟩, HX].map bl).flatten = bl S10 := by rw [h10, h11]; simp [bl, ByteArray.data_append]
        have f12 : ([⟨⟨rawL⟩⟩, Qn, ⟨⟨[32]⟩⟩, S10].map bl).flatten = bl S12 := by rw [h12, h14, h13]; simp [bl, ByteArray.data_append]
        have g10 : (⟨([D, ⟨⟨[32]⟩⟩, HX].map bl).flatten.toArray⟩ : ByteArray) = S10 := by rw [f10]
        have g12 : (⟨([⟨⟨rawL⟩⟩, Qn, ⟨⟨[32]⟩⟩, S10].map bl).flatten.toArray⟩ : ByteArray) = S12 := by rw [f12]
        have z12 : S12.size = S14.size + S10.size := by rw [h12, z]
        refine sym_to (vals := [.agg #[.string nm, .bool true, .string tx_]]) hG (T := tr) ⟨⟨b1, b2, bok_add (s := D) (t := ⟨⟨[32]⟩⟩) (fun _ => rfl) (fun _ => rfl) (fun _ => by rw [← h11]; rfl) (by omega), bok_add (s := S11) (t := HX) (fun _ => rfl) (fun _ => rfl) (fun _ => by rw [← h10]; rfl) (by omega),
            bok_add (s := ⟨⟨rawL⟩⟩) (t := Qn) (fun _ => rfl) (fun _ => rfl) (fun _ => by rw [← h13]; rfl) (by omega), bok_add (s := S13) (t := ⟨⟨[32]⟩⟩) (fun _ => rfl) (fun _ => rfl) (fun _ => by rw [← h14]; rfl) (by omega), bok_add (s := S14) (t := S10) (fun _ => rfl) (fun _ => rfl) (fun _ => by rw [← h12]; rfl) (by omega),
            bok_eqs (s := S12) (t := S12) (fun _ => rfl) (fun _ => rfl) (by simp), trivial⟩, trivial, trivial, hL,
          ⟨⟨[.string nm], _, fun _ => rfl, fun _ => rfl, fun w' _ => c1 w'⟩, ⟨[.string nm], _, fun _ => rfl, fun _ => rfl, fun w' _ => c2 w'⟩, ⟨[.int .i64 tx_.size], _, fun _ => rfl, fun _ => rfl, c3⟩, ⟨[.int .i64 tx_.size], _, fun _ => rfl, fun _ => rfl, fun w' _ => c4 w'⟩, ⟨[.int .u32 (c : Int)], _, fun _ => rfl, fun _ => rfl, fun w' _ => c5 w'⟩, ⟨[.string SB], _, fun _ => rfl, fun _ => rfl, fun w' _ => c6 w'⟩, ⟨[.string SB], _, fun _ => rfl, fun _ => rfl, fun w' _ => c7 w'⟩, ⟨[.int .u64 0, .string tx_], _, fun _ => rfl, fun _ => rfl, fun w' _ => c8 w'⟩, ⟨[.int .u64 (c : Int), .int .i64 4], _, fun _ => rfl, fun _ => rfl, fun w' _ => c9 w'⟩, trivial⟩,
          ⟨ws, wok_join [D, ⟨⟨[32]⟩⟩, HX] (fun _ => rfl) (fun _ => by rw [g10]; rfl) (by simp) (by rw [f10, bl_length]; omega), wok_join [⟨⟨rawL⟩⟩, Qn, ⟨⟨[32]⟩⟩, S10] (fun _ => rfl) (fun _ => by rw [g12]; rfl) (by simp) (by rw [f12, bl_length]; omega), trivial⟩, trivial⟩ rfl rr (fun _ => rfl)
      | false =>
        rw [if_neg (by decide)] at h13 h12
        have c3 := kq tx_ Qt hQt (by omega)
        have c4 := kr tx_ Qt hQt (by omega)
        have f12 : ([⟨⟨texL⟩⟩, Qn, ⟨⟨[32]⟩⟩, Qt].map bl).flatten = bl S12 := by rw [h12, h14, h13]; simp [bl, ByteArray.data_append]
        have g12 : (⟨([⟨⟨texL⟩⟩, Qn, ⟨⟨[32]⟩⟩, Qt].map bl).flatten.toArray⟩ : ByteArray) = S12 := by rw [f12]
        have z12 : S12.size = S14.size + Qt.size := by rw [h12, z]
        refine sym_to (vals := [.agg #[.string nm, .bool false, .string tx_]]) hG (T := tx) ⟨⟨b1, b2, bok_add (s := ⟨⟨texL⟩⟩) (t := Qn) (fun _ => rfl) (fun _ => rfl) (fun _ => by rw [← h13]; rfl) (by omega), bok_add (s := S13) (t := ⟨⟨[32]⟩⟩) (fun _ => rfl) (fun _ => rfl) (fun _ => by rw [← h14]; rfl) (by omega), bok_add (s := S14) (t := Qt) (fun _ => rfl) (fun _ => rfl) (fun _ => by rw [← h12]; rfl) (by omega),
            bok_eqs (s := S12) (t := S12) (fun _ => rfl) (fun _ => rfl) (by simp), trivial⟩, trivial, trivial, hL,
          ⟨⟨[.string nm], _, fun _ => rfl, fun _ => rfl, fun w' _ => c1 w'⟩, ⟨[.string nm], _, fun _ => rfl, fun _ => rfl, fun w' _ => c2 w'⟩, ⟨[.string tx_], _, fun _ => rfl, fun _ => rfl, fun w' _ => c3 w'⟩, ⟨[.string tx_], _, fun _ => rfl, fun _ => rfl, fun w' _ => c4 w'⟩, trivial⟩,
          ⟨wok_join [⟨⟨texL⟩⟩, Qn, ⟨⟨[32]⟩⟩, Qt] (fun _ => rfl) (fun _ => by rw [g12]; rfl) (by simp) (by rw [f12, bl_length]; omega), trivial⟩, trivial⟩ rfl rx (fun _ => rfl)
end Go.Proofs.YtjoechkdmdinoaaGreatDoor.reportLeaves
namespace Go.Proofs.YtjoechkdmdinoaaGreatDoor.reportLeaves
open Go.ChangeShapes Go.WideShapes Go.ChangeAt Go.RowKit Go.Lib Go.ChangeMaps
set_option linter.unusedVariables false
set_option linter.unusedSimpArgs false
abbrev laidL : List (String × DataW Unit) := [("diacritic/sniff.starts", Rows.laid_diacritic_sniff_starts), ("unicode/utf8.first", Rows.laid_unicode_utf8_first), ("unicode/utf8.acceptRanges", Rows.laid_unicode_utf8_acceptRanges), ("math/bits.deBruijn32tab", Rows.laid_math_bits_deBruijn32tab), ("internal/strconv.uint64pow10", Rows.laid_internal_strconv_uint64pow10), ("math/bits.deBruijn64tab", Rows.laid_math_bits_deBruijn64tab)]
theorem laidL_met (os : Os) (args : Array Value) : laidMetH Tryz.prog laidL ((World.laidAll Tryz.prog os laidL).forCall (fun _ _ => 0) ⟨#[], args, []⟩).memory := by
  rw [MakeChecks.laidMetH_plain _ _ _ (by kernel_rfl)]
  exact laidMet_laidAll _ (by kernel_rfl) (by kernel_rfl)
theorem laidL_shaped (os : Os) (args : Array Value) : ((World.laidAll Tryz.prog os laidL).forCall (fun _ _ => 0) ⟨#[], args, []⟩).Shaped Tryz.prog := World.shaped_of_ZipB (by kernel_rfl) (by kernel_rfl)
set_option maxRecDepth 100000 in
theorem lifted (os : Os) (started : os.Started) (H : Type) (enc : TypeId × Value → H) :
    ReturnsInHanded {} Tryz.checked os 6 .any (fun w args => (Rows.reportLeavesSpec.pre enc Tryz.prog Tryz.f6 Rows.reportLeavesRow.domain false w args ∧ laidMetH Tryz.prog laidL w) ∧ sizedMet enc Tryz.prog Tryz.f6 (OpenSpec.ofChange Rows.reportLeavesSpec) false w args) (Rows.reportLeavesSpec.post enc Tryz.prog Tryz.f6 false true false false) := by
  refine handed_laid_shaped (C := Tryz.checked) (X := fun w => laidMetH Tryz.prog laidL w) (fun _ _ hh h => h.of_heap hh) own started (by kernel_rfl) Tryz.func6
    (ChangeSpec.witness_shaped (enc := enc) (C := Tryz.checked) (os := os) (X := fun w _ => laidMetH Tryz.prog laidL w) false (World.laidAll Tryz.prog os laidL) #[.agg #[.string ByteArray.empty, .bool false, .string ByteArray.empty]] 8 (World.laidAll_os _ _ _) (laidL_shaped os _) (by kernel_rfl) (by kernel_rfl) (by kernel_rfl) (laidL_met os _)) ?_
  intro W base args ds gs before hval0 hW hL hsh
  rw [MakeChecks.laidMetH_plain _ _ _ (by kernel_rfl)] at hL
  have hT := gw_of (Lib.laidMet.reads hL (n := "math/bits.deBruijn32tab") (.tail _ (.tail _ (.tail _ (.head _))))) (Lib.laidMet.reads hL (n := "unicode/utf8.acceptRanges") (.tail _ (.tail _ (.head _)))) (Lib.laidMet.reads hL (n := "unicode/utf8.first") (.tail _ (.head _))) (Lib.laidMet.reads hL (n := "diacritic/sniff.starts") (.head _)) hsh
  have hT := And.intro hT (pt_of (Lib.laidMet.reads hL (n := "internal/strconv.uint64pow10") (.tail _ (.tail _ (.tail _ (.tail _ (.head _)))))))
  have hval : ∀ (j : Nat) t v, Tryz.f6.params[j]? = some t → args[j]? = some v → Value.okWide Tryz.prog W .any base t v := hval0
  have hW' := hW
  obtain ⟨p, q, hA0, hV, rfl, hfz, hnd⟩ := hW
  have hA : DataW.TrodAll enc Tryz.prog W 0 (fun _ => true) true Tryz.f6.params.toList args.toList ds p := hA0
  rw [Tryz.params6] at hA hval
  obtain ⟨v0, vs0, d0, ds0, p0, q0, hargs, rfl, rfl, h0, r0⟩ := trodAll_cons hA
  obtain ⟨rfl, rfl, rfl⟩ := trodAll_nil r0
  obtain rfl : args = #[v0] := by cases args; simp_all
  obtain ⟨rfl, rfl⟩ := trodVars_none hV
  have h0k := h0
  obtain ⟨a0, b0, g0, rfl⟩ := open_leaf (hval 0 37 v0 rfl rfl) h0
  clear hA0 hval0
  simp only [List.append_nil] at hW'
  refine (walk a0 b0 g0  W hT).mono fun e W' ⟨he, hg⟩ => ?_
  subst he
  have T0 := Below.trod (W' := W') (by kernel_rfl) (by kernel_rfl) (of_decide_eq_true (by kernel_rfl)) h0k hg (fun x hx => by simpa using hW'.lt x (by simp [hx]))
  exact ⟨_, rfl, post_below (pa := _) (pv := []) hW' (trodAll_cons_mk (shut_bool Tryz.underlying4 _) trodAll_mk0) (trodAll_cons_mk T0 trodAll_mk0) rfl hg⟩

theorem over : Rows.reportLeavesRow.holds Tryz.pinned (OpenSpec.ofChange Rows.reportLeavesSpec) :=
  OpenClaim.holds_of_wide 6 Tryz.f6 rfl rfl rfl rfl rfl rfl rfl ⟨rfl, rfl, rfl, rfl, rfl⟩ rfl rfl rfl rfl rfl k_named Tryz.func6 k_joined (of_decide_eq_true (by kernel_rfl)) k_wrap
    (fun os started H enc _ => lifted os started H enc)

/-- THE STATEMENT: the tied card -/
theorem proved : Rows.ReportLeavesCardSaid :=
  Claim7.holds_tied_plain_at .later [] [.data, .pinned, .data, .data, .data, .data] true Rows.reportLeavesCard.stood.harness Rows.reportLeavesCard.stood.looks over (fun _ h => by cases h) k_wf (fun _ h => by cases h) reportLeaves_row_tie rfl ⟨rfl, rfl⟩ k_main rfl
    (fun f fn hf hfn => by
      obtain rfl : f = 6 := Option.some.inj (k_named.symm.trans hf) |>.symm
      obtain rfl : fn = Tryz.f6 := (Option.some.inj (Tryz.func6.symm.trans hfn)).symm
      exact ⟨k_looks, fun j t ht => by
        rw [Tryz.params6] at ht
        have hm : t ∈ [37] := by simpa using Array.mem_of_getElem? ht
        exact (show Tryz.prog.wantsStandIn t = false by simpa using List.all_eq_true.1 k_stand t hm)⟩)
    k_goes
#print axioms proved
end Go.Proofs.YtjoechkdmdinoaaGreatDoor.reportLeaves
