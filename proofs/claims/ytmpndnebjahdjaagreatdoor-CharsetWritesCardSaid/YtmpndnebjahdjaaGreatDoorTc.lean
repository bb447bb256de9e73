/- Plain: the rank of the k-th syllable is k; its bytes in CP949. -/
import Derived.Test.YtmpndnebjahdjaaGreatDoorTh
import Derived.Test.YtmpndnebjahdjaaGreatDoorWf
namespace Go.Proofs.YtmpndnebjahdjaaGreatDoor
open Go.RowKit
set_option linter.unusedVariables false
set_option linter.unusedSimpArgs false

def chkLow (c : List Nat) (v : Int) : Nat → Nat → Nat → Bool
  | 0, _, _ => true
  | f + 1, i, a => (pop32 (bits .and .u32 v ((2 ^ i - 1) % 4294967296)).toNat == a) && chkLow c v f (i + 1) (if bit7 c i then a + 1 else a)
def chkLows : List UInt8 → Bool
  | a :: b :: c :: d :: e :: f :: g :: r => forceI (val7 [dg a, dg b, dg c, dg d, dg e, dg f, dg g]) (fun v => chkLow [dg a, dg b, dg c, dg d, dg e, dg f, dg g] v 28 0 0) && chkLows r
  | _ => true
set_option maxRecDepth 100000 in
theorem low_members : chkLows (bl membersB) = true := by decide +kernel
theorem chkLows_at : ∀ (g : Nat) (l : List UInt8), chkLows l = true → g * 7 + 7 ≤ l.length → chkLow (c7 (l.drop (g * 7))) (val7 (c7 (l.drop (g * 7)))) 28 0 0 = true := by
  intro g
  induction g with
  | zero =>
    intro l h hl
    match l, hl with
    | a :: b :: c :: d :: e :: f :: g :: r, _ =>
      rw [chkLows, Bool.and_eq_true, forceI_eq] at h
      exact h.1
  | succ g ih =>
    intro l h hl
    match l, hl with
    | a :: b :: c :: d :: e :: f :: g' :: r, hl =>
      rw [chkLows, Bool.and_eq_true] at h
      have h1 := ih r h.2 (by simp only [List.length_cons] at hl; omega)
      have e : (g + 1) * 7 = g * 7 + 7 := by omega
      rw [e]
      exact h1
/-- how many of the first places have a bit. -/
def cntB (f : Nat → Bool) : Nat → Nat
  | 0 => 0
  | i + 1 => cntB f i + if f i then 1 else 0
theorem chkLow_at (c : List Nat) (v : Int) : ∀ (f i : Nat), chkLow c v f i (cntB (bit7 c) i) = true → ∀ j, i ≤ j → j < i + f → pop32 (bits .and .u32 v ((2 ^ j - 1) % 4294967296)).toNat = cntB (bit7 c) j := by
  intro f
  induction f with
  | zero => intro i h j h0 h1; omega
  | succ f ih =>
    intro i h j h0 h1
    rw [chkLow, Bool.and_eq_true, beq_iff_eq] at h
    by_cases hj : j = i
    · rw [hj]; exact h.1
    · have e : (if bit7 c i then cntB (bit7 c) i + 1 else cntB (bit7 c) i) = cntB (bit7 c) (i + 1) := by rw [cntB]; split <;> rfl
      rw [e] at h
      exact ih (i + 1) h.2 j (by omega) (by omega)
theorem cntB_congr (f g : Nat → Bool) : ∀ n, (∀ i, i < n → f i = g i) → cntB f n = cntB g n := by
  intro n
  induction n with
  | zero => intro _; rfl
  | succ n ih => intro h; rw [cntB, cntB, ih (fun i hi => h i (by omega)), h n (by omega)]
theorem cntB_add (f : Nat → Bool) (a : Nat) : ∀ n, cntB f (a + n) = cntB f a + cntB (fun i => f (a + i)) n := by
  intro n
  induction n with
  | zero => rfl
  | succ n ih => rw [show a + (n + 1) = (a + n) + 1 from rfl, cntB, ih, cntB]; omega
theorem low_grp (g j : Nat) (hg : g < 399) (hj : j < 28) : pop32 (bits .and .u32 (grp g) ((2 ^ j - 1) % 4294967296)).toNat = cntB (fun i => inN (28 * g + i)) j := by
  have h := chkLows_at g _ low_members (by rw [bl_length, members_size]; omega)
  rw [val7_grp g hg] at h
  rw [chkLow_at _ _ 28 0 h j (by omega) (by omega)]
  exact cntB_congr _ _ j fun i hi => (inN_bit g i (by omega)).symm
theorem filter_cnt (f : Nat → Bool) : ∀ (m n : Nat), ((List.range' n m).filter f).length = cntB (fun i => f (n + i)) m := by
  intro m
  induction m with
  | zero => intro n; rfl
  | succ m ih =>
    intro n
    rw [List.range'_succ, List.filter_cons, show m + 1 = 1 + m from by omega, cntB_add, cntB_congr (fun i => f (n + (1 + i))) (fun i => f (n + 1 + i)) m (fun i _ => by rw [Nat.add_assoc])]
    have := ih (n + 1)
    simp only [cntB, Nat.add_zero]
    split <;> simp_all <;> omega
theorem popSum_cnt (g : Nat) (hg : g ≤ 399) : popSum g = cntB inN (28 * g) := by
  induction g with
  | zero => rfl
  | succ g ih =>
    obtain ⟨P, hP, hlen, _⟩ := grp_pos true g (by omega)
    have h1 := congrArg List.length hP
    rw [List.length_map, filter_cnt] at h1
    have e : cntB (fun i => (inN (28 * g + i) == true)) 28 = cntB (fun i => inN (28 * g + i)) 28 := cntB_congr _ _ _ fun i _ => by simp
    rw [popSum, ih (by omega), show 28 * (g + 1) = 28 * g + 28 from by omega, cntB_add, show grp g = grpW true g from rfl, hlen, ← h1, e]
theorem rankOwn_cnt (n : Nat) (h : n < 11172) : rankOwn (44032 + (n : Int)) = (cntB inN n : Nat) := by
  unfold rankOwn lowBits
  rw [show ((44032 + (n : Int) - 44032) / 28).toNat = n / 28 from by omega, show ((44032 + (n : Int) - 44032) % 28).toNat = n % 28 from by omega, popSum_cnt _ (by omega), low_grp _ _ (by omega) (by omega), ← cntB_add, show 28 * (n / 28) + n % 28 = n from by omega]
theorem cntB_not (f : Nat → Bool) : ∀ n, cntB (fun i => !f i) n + cntB f n = n := by
  intro n
  induction n with
  | zero => rfl
  | succ n ih =>
    simp only [cntB]
    by_cases hq : f n = true
    · rw [if_neg (by rw [hq]; decide), if_pos hq]; omega
    · rw [if_pos (by simpa using hq), if_neg hq]; omega
theorem rankM_cnt (n : Nat) (h : n < 11172) (within : Bool) (hw : inN n = within) : rankM (44032 + (n : Int)) = (cntB (fun i => inN i == within) n : Nat) := by
  unfold rankM
  rw [rankIn_inN n h, rankOwn_cnt n h, hw]
  cases within with
  | true =>
    rw [if_pos rfl, cntB_congr (fun i => inN i == true) inN n (fun i _ => by simp)]
  | false =>
    have := cntB_not inN n
    rw [if_neg (by decide), cntB_congr (fun i => inN i == false) (fun i => !inN i) n (fun i _ => by simp)]
    omega
theorem kthF_rank (within : Bool) : ∀ (f n k : Nat), n + f ≤ 11172 → kthF within f n k ≠ 0 → ∃ m, n ≤ m ∧ m < n + f ∧ kthF within f n k = 44032 + (m : Int) ∧ inN m = within ∧ cntB (fun i => inN (n + i) == within) (m - n) = k := by
  intro f
  induction f with
  | zero => intro n k _ h; exact absurd rfl h
  | succ f ih =>
    intro n k hn h
    rw [kthF] at h ⊢
    by_cases hw : inN n = within
    · rw [if_pos hw] at h ⊢
      by_cases hk : k = 0
      · rw [if_pos hk]
        exact ⟨n, Nat.le_refl _, by omega, rfl, hw, by rw [Nat.sub_self]; exact hk.symm⟩
      · rw [if_neg hk] at h ⊢
        obtain ⟨m, h0, h1, h2, h3, h4⟩ := ih (n + 1) (k - 1) (by omega) h
        refine ⟨m, by omega, by omega, h2, h3, ?_⟩
        rw [show m - n = 1 + (m - (n + 1)) from by omega, cntB_add, cntB_congr (fun i => (inN (n + (1 + i)) == within)) (fun i => inN (n + 1 + i) == within) _ (fun i _ => by rw [Nat.add_assoc]), h4]
        simp only [cntB, Nat.add_zero]
        rw [if_pos (by simpa using hw)]
        omega
    · rw [if_neg hw] at h ⊢
      obtain ⟨m, h0, h1, h2, h3, h4⟩ := ih (n + 1) k (by omega) h
      refine ⟨m, by omega, by omega, h2, h3, ?_⟩
      rw [show m - n = 1 + (m - (n + 1)) from by omega, cntB_add, cntB_congr (fun i => (inN (n + (1 + i)) == within)) (fun i => inN (n + 1 + i) == within) _ (fun i _ => by rw [Nat.add_assoc]), h4]
      simp only [cntB, Nat.add_zero]
      rw [if_neg (by simpa using hw)]
      omega
theorem kthM_rank (k : Int) (within : Bool) (h : kthM k within ≠ 0) : 44032 ≤ kthM k within ∧ kthM k within ≤ 55203 ∧ rankIn (kthM k within) = within ∧ rankM (kthM k within) = k := by
  unfold kthM at h ⊢
  by_cases hk : k < 0
  · rw [if_pos hk] at h; exact absurd rfl h
  · rw [if_neg hk] at h ⊢
    obtain ⟨m, h0, h1, h2, h3, h4⟩ := kthF_rank within 11172 0 k.toNat (by omega) h
    rw [h2]
    refine ⟨by omega, by omega, ?_, ?_⟩
    · rw [rankIn_inN m (by omega), h3]
    · rw [rankM_cnt m (by omega) within h3, cntB_congr (fun i => inN i == within) (fun i => inN (0 + i) == within) m (fun i _ => by rw [Nat.zero_add])]
      rw [Nat.sub_zero] at h4
      rw [h4]
      omega
theorem second_number (b : Int) (h : 0 ≤ numberM b) : secondM (numberM b) = b := by
  unfold numberM at h ⊢
  unfold secondM
  repeat' split
  all_goals omega
/-- a syllable's code leads back to the two bytes. -/
theorem code_syl (lead b : Int) (h0 : 0 ≤ lead) (h1 : lead ≤ 255) (h2 : 0 ≤ b) (h3 : b ≤ 255) (hz : signW lead b ≠ 0) (hr : ¬ (161 ≤ lead ∧ 161 ≤ b ∧ ¬ (176 ≤ lead ∧ lead ≤ 200))) :
    (44032 ≤ signW lead b ∧ signW lead b ≤ 55203) ∧ wCode (signW lead b) = lead * 256 + b := by
  unfold signW at hz ⊢
  by_cases c1 : numberM b < 0 ∨ lead < 129 ∨ 254 < lead
  · rw [if_pos c1] at hz; exact absurd rfl hz
  rw [if_neg c1] at hz ⊢
  have hs := second_number b (by omega)
  obtain ⟨n0, n1⟩ := numberM_bd b
  have hn : b < 161 → numberM b ≤ 83 := by intro h; unfold numberM; omega
  have hb4 : b ≤ 254 := by have : ¬ numberM b < 0 := by omega
                           unfold numberM at this; omega
  by_cases c2 : lead < 161
  · rw [if_pos c2] at hz ⊢
    obtain ⟨e0, e1, e2, e3⟩ := kthM_rank _ _ hz
    refine ⟨⟨e0, e1⟩, ?_⟩
    unfold wCode
    rw [e2, e3, if_neg (by decide), if_pos (by omega), show ((lead - 129) * 178 + numberM b) / 178 = lead - 129 from by omega, show ((lead - 129) * 178 + numberM b) % 178 = numberM b from by omega, hs]
    omega
  rw [if_neg c2] at hz ⊢
  by_cases c3 : b < 161
  · rw [if_pos c3] at hz ⊢
    have := hn c3
    obtain ⟨e0, e1, e2, e3⟩ := kthM_rank _ _ hz
    refine ⟨⟨e0, e1⟩, ?_⟩
    unfold wCode
    rw [e2, e3, if_neg (by decide), if_neg (by omega), show (5696 + (lead - 161) * 84 + numberM b - 5696) / 84 = lead - 161 from by omega, show (5696 + (lead - 161) * 84 + numberM b - 5696) % 84 = numberM b from by omega, hs]
    omega
  rw [if_neg c3] at hz ⊢
  have c4 : 176 ≤ lead ∧ lead ≤ 200 := by omega
  rw [if_pos c4] at hz ⊢
  obtain ⟨e0, e1, e2, e3⟩ := kthM_rank _ _ hz
  refine ⟨⟨e0, e1⟩, ?_⟩
  unfold wCode
  rw [e2, e3, if_pos rfl, show ((lead - 176) * 94 + b - 161 + 1410) / 94 = lead - 161 from by omega, show ((lead - 176) * 94 + b - 161 + 1410) % 94 = b - 161 from by omega]
  omega
end Go.Proofs.YtmpndnebjahdjaaGreatDoor
/- Plain: to look for a sign's digits in a list is to look for the sign. -/
namespace Go.Proofs.YtmpndnebjahdjaaGreatDoor
open Go.RowKit
set_option linter.unusedVariables false
set_option linter.unusedSimpArgs false

/-- four digits and a blank each. -/
def hexOk : List UInt8 → Bool
  | [] => true
  | a :: b :: c :: d :: e :: r => decide (0 ≤ hexv a ∧ hexv a ≤ 15) && decide (0 ≤ hexv b ∧ hexv b ≤ 15) && decide (0 ≤ hexv c ∧ hexv c ≤ 15) && decide (0 ≤ hexv d ∧ hexv d ≤ 15) && decide (e = 32) && hexOk r
  | _ => false
/-- the place of a sign; -1: it isn't there. -/
def findP : List Int → Int → Int
  | [], _ => -1
  | q :: l, p => if q = p then 0 else if findP l p = -1 then -1 else findP l p + 1
theorem findP_ge (p : Int) : ∀ l, -1 ≤ findP l p := by
  intro l
  induction l with
  | nil => exact Int.le_refl _
  | cons q l ih => rw [findP]; split; omega; split <;> omega
theorem hexv_inv : ∀ c : UInt8, 0 ≤ hexv c → c = hexD (hexv c).toNat := by
  intro c
  have : ∀ i : Fin 256, 0 ≤ hexv (UInt8.ofNat i.val) → UInt8.ofNat i.val = hexD (hexv (UInt8.ofNat i.val)).toNat := by decide +kernel
  have h := this ⟨c.toNat, c.toNat_lt⟩
  simpa using h
theorem hexv_hexD : ∀ n : Fin 16, hexv (hexD n.val) = (n.val : Int) ∧ hexD n.val ≠ 32 := by decide +kernel
theorem hexv_blank : hexv 32 = -1 := by decide +kernel
theorem hexv_D (n : Nat) (h : n < 16) : hexv (hexD n) = (n : Int) ∧ hexD n ≠ 32 := hexv_hexD ⟨n, h⟩
/-- the digits of a number are those ahead iff it is theirs. -/
theorem hex_head (a b c d : UInt8) (n : Nat) (hn : n < 65536) (ha : 0 ≤ hexv a ∧ hexv a ≤ 15) (hb : 0 ≤ hexv b ∧ hexv b ≤ 15) (hc : 0 ≤ hexv c ∧ hexv c ≤ 15) (hd : 0 ≤ hexv d ∧ hexv d ≤ 15) (r : List UInt8) :
    (hex5 n).isPrefixOf (a :: b :: c :: d :: 32 :: r) = decide (((hexv a * 16 + hexv b) * 16 + hexv c) * 16 + hexv d = (n : Int)) := by
  have e1 := hexv_inv a ha.1
  have e2 := hexv_inv b hb.1
  have e3 := hexv_inv c hc.1
  have e4 := hexv_inv d hd.1
  obtain ⟨f1, _⟩ := hexv_D (n / 4096) (by omega)
  obtain ⟨f2, _⟩ := hexv_D (n / 256 % 16) (by omega)
  obtain ⟨f3, _⟩ := hexv_D (n / 16 % 16) (by omega)
  obtain ⟨f4, _⟩ := hexv_D (n % 16) (by omega)
  by_cases h : ((hexv a * 16 + hexv b) * 16 + hexv c) * 16 + hexv d = (n : Int)
  · rw [decide_eq_true h]
    have g1 : (hexv a).toNat = n / 4096 := by omega
    have g2 : (hexv b).toNat = n / 256 % 16 := by omega
    have g3 : (hexv c).toNat = n / 16 % 16 := by omega
    have g4 : (hexv d).toNat = n % 16 := by omega
    rw [e1, e2, e3, e4, g1, g2, g3, g4]
    simp [hex5, List.isPrefixOf]
  · rw [decide_eq_false h]
    cases hp : (hex5 n).isPrefixOf (a :: b :: c :: d :: 32 :: r) with
    | false => rfl
    | true =>
      exfalso
      simp only [hex5, List.isPrefixOf, Bool.and_eq_true, beq_iff_eq] at hp
      obtain ⟨p1, p2, p3, p4, _⟩ := hp
      rw [p1] at f1
      rw [p2] at f2
      rw [p3] at f3
      rw [p4] at f4
      omega
theorem hex_off (n : Nat) (hn : n < 65536) (l r : List UInt8) (h : l.length ≤ 3) : (hex5 n).isPrefixOf (l ++ 32 :: r) = false := by
  obtain ⟨_, f1⟩ := hexv_D (n / 4096) (by omega)
  obtain ⟨_, f2⟩ := hexv_D (n / 256 % 16) (by omega)
  obtain ⟨_, f3⟩ := hexv_D (n / 16 % 16) (by omega)
  obtain ⟨_, f4⟩ := hexv_D (n % 16) (by omega)
  match l, h with
  | [], _ => simp [hex5, List.isPrefixOf, f1]
  | [x], _ => simp [hex5, List.isPrefixOf, f2]
  | [x, y], _ => simp [hex5, List.isPrefixOf, f3]
  | [x, y, z], _ => simp [hex5, List.isPrefixOf, f4]
theorem index_skip (b : UInt8) (l sub : List UInt8) (h : sub.isPrefixOf (b :: l) = false) : Lib.index (b :: l) sub = if Lib.index l sub == -1 then -1 else Lib.index l sub + 1 := by
  rw [Lib.index, if_neg (by rw [h]; decide)]
theorem index_hex (n : Nat) (hn : n < 65536) : ∀ (m : Nat) (l : List UInt8), l.length = 5 * m → hexOk l = true → Lib.index l (hex5 n) = if findP (hexPts l) n = -1 then -1 else 5 * findP (hexPts l) n := by
  intro m
  induction m with
  | zero =>
    intro l hl _
    obtain rfl : l = [] := List.eq_nil_of_length_eq_zero (by omega)
    rfl
  | succ m ih =>
    intro l hl hok
    match l, hl, hok with
    | a :: b :: c :: d :: e :: r, hl, hok =>
      simp only [List.length_cons] at hl
      rw [hexOk] at hok
      simp only [Bool.and_eq_true, decide_eq_true_eq] at hok
      obtain ⟨⟨⟨⟨⟨ha, hb⟩, hc⟩, hd⟩, rfl⟩, hr⟩ := hok
      have ihr := ih r (by omega) hr
      have e0 : hexPts (a :: b :: c :: d :: 32 :: r) = (((hexv a * 16 + hexv b) * 16 + hexv c) * 16 + hexv d) :: hexPts r := by
        unfold hexPts
        simp only [List.length_cons]
        rw [show (r.length + 1 + 1 + 1 + 1 + 1) / 5 = r.length / 5 + 1 from by omega, hexPtsF]
        simp [hexAt]
      have hh := hex_head a b c d n hn ha hb hc hd r
      rw [e0, findP]
      by_cases hv : ((hexv a * 16 + hexv b) * 16 + hexv c) * 16 + hexv d = (n : Int)
      · rw [decide_eq_true hv] at hh
        rw [Lib.index, if_pos hh, if_pos hv, if_neg (by decide)]
        rfl
      · rw [decide_eq_false hv] at hh
        have hge := findP_ge (n : Int) (hexPts r)
        have s1 : Lib.index (b :: c :: d :: 32 :: r) (hex5 n) = if Lib.index (c :: d :: 32 :: r) (hex5 n) == -1 then -1 else Lib.index (c :: d :: 32 :: r) (hex5 n) + 1 := index_skip b _ _ (hex_off n hn [b, c, d] r (by simp))
        have s2 : Lib.index (c :: d :: 32 :: r) (hex5 n) = if Lib.index (d :: 32 :: r) (hex5 n) == -1 then -1 else Lib.index (d :: 32 :: r) (hex5 n) + 1 := index_skip c _ _ (hex_off n hn [c, d] r (by simp))
        have s3 : Lib.index (d :: 32 :: r) (hex5 n) = if Lib.index (32 :: r) (hex5 n) == -1 then -1 else Lib.index (32 :: r) (hex5 n) + 1 := index_skip d _ _ (hex_off n hn [d] r (by simp))
        have s4 : Lib.index (32 :: r) (hex5 n) = if Lib.index r (hex5 n) == -1 then -1 else Lib.index r (hex5 n) + 1 := index_skip 32 _ _ (hex_off n hn [] r (by simp))
        rw [index_skip _ _ _ hh, s1, s2, s3, s4, ihr, if_neg hv]
        generalize findP (hexPts r) (n : Int) = F at *
        by_cases hF : F = -1
        · rw [if_pos hF, if_pos hF]; simp
        · have h0 : 0 ≤ F := by omega
          rw [if_neg hF, if_neg hF]
          have k0 : (5 * F == -1) = false := by simp; omega
          have k1 : (5 * F + 1 == -1) = false := by simp; omega
          have k2 : (5 * F + 1 + 1 == -1) = false := by simp; omega
          have k3 : (5 * F + 1 + 1 + 1 == -1) = false := by simp; omega
          have k4 : (5 * F + 1 + 1 + 1 + 1 == -1) = false := by simp; omega
          simp only [k0, k1, k2, k3, k4, Bool.false_eq_true, if_false]
          rw [if_neg (show ¬ F + 1 = -1 from by omega)]
          omega
theorem hexOk_len : ∀ (m : Nat) (l : List UInt8), l.length ≤ m → hexOk l = true → ∃ k, l.length = 5 * k := by
  intro m
  induction m with
  | zero => intro l hl _; exact ⟨0, by omega⟩
  | succ m ih =>
    intro l hl hok
    match l, hok with
    | [], _ => exact ⟨0, rfl⟩
    | a :: b :: c :: d :: e :: r, hok =>
      rw [hexOk] at hok
      simp only [Bool.and_eq_true] at hok
      obtain ⟨k, hk⟩ := ih r (by simp only [List.length_cons] at hl; omega) hok.2
      exact ⟨k + 1, by simp only [List.length_cons]; omega⟩
theorem hexPts_bd : ∀ (m : Nat) (l : List UInt8), l.length = 5 * m → hexOk l = true → ∀ p ∈ hexPts l, 0 ≤ p ∧ p ≤ 65535 := by
  intro m
  induction m with
  | zero =>
    intro l hl _ p hp
    obtain rfl : l = [] := List.eq_nil_of_length_eq_zero (by omega)
    cases hp
  | succ m ih =>
    intro l hl hok p hp
    match l, hl, hok with
    | a :: b :: c :: d :: e :: r, hl, hok =>
      simp only [List.length_cons] at hl
      rw [hexOk] at hok
      simp only [Bool.and_eq_true, decide_eq_true_eq] at hok
      obtain ⟨⟨⟨⟨⟨ha, hb⟩, hc⟩, hd⟩, rfl⟩, hr⟩ := hok
      have e0 : hexPts (a :: b :: c :: d :: 32 :: r) = (((hexv a * 16 + hexv b) * 16 + hexv c) * 16 + hexv d) :: hexPts r := by
        unfold hexPts
        simp only [List.length_cons]
        rw [show (r.length + 1 + 1 + 1 + 1 + 1) / 5 = r.length / 5 + 1 from by omega, hexPtsF]
        simp [hexAt]
      rw [e0] at hp
      rcases List.mem_cons.1 hp with rfl | hp
      · omega
      · exact ih r (by omega) hr p hp
theorem findP_not (p : Int) : ∀ l : List Int, (∀ q ∈ l, q ≠ p) → findP l p = -1 := by
  intro l
  induction l with
  | nil => intro _; rfl
  | cons q l ih => intro h; rw [findP, if_neg (h q (by simp)), ih (fun r hr => h r (by simp [hr])), if_pos rfl]
/-- the number of a sign in a list, by the signs. -/
theorem findM_pts (l : List UInt8) (hok : hexOk l = true) (p : Int) : findM l p = findP (hexPts l) p := by
  obtain ⟨k, hk⟩ := hexOk_len l.length l (Nat.le_refl _) hok
  unfold findM
  by_cases hp : p < 0 ∨ 65535 < p
  · rw [if_pos hp, findP_not p _ fun q hq => by have := hexPts_bd k l hk hok q hq; omega]
  · rw [if_neg hp, index_hex p.toNat (by omega) k l hk hok, show ((p.toNat : Nat) : Int) = p from by omega]
    have := findP_ge p (hexPts l)
    by_cases hF : findP (hexPts l) p = -1
    · rw [if_pos hF, if_pos (by omega), hF]
    · rw [if_neg hF, if_neg (by omega)]; omega
theorem findM_nil (p : Int) : findM [] p = -1 := by
  rw [findM_pts [] rfl]; rfl
end Go.Proofs.YtmpndnebjahdjaaGreatDoor
