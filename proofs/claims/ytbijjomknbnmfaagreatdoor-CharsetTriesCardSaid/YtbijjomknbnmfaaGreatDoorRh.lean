/- Plain: the k-th syllable by counting one by one is the one that the groups give (layer 7). -/
import Derived.Test.YtbijjomknbnmfaaGreatDoorWb
namespace Go.Proofs.YtbijjomknbnmfaaGreatDoor
open Go.RowKit
set_option linter.unusedVariables false
set_option linter.unusedSimpArgs false

/-- a number brought to a numeral ahead of what is made of it. -/
def forceI {α : Type} (n : Int) (k : Int → α) : α := match n with
  | .ofNat m => match m with
    | 0 => k 0
    | m' + 1 => k (Int.ofNat (m' + 1))
  | .negSucc m => k (.negSucc m)
theorem forceI_eq {α : Type} (n : Int) (k : Int → α) : forceI n k = k n := by
  match n with
  | .ofNat 0 => rfl
  | .ofNat (m + 1) => rfl
  | .negSucc m => rfl
/-- the places of the bits that are set, by clearing the lowest again and again. -/
def bitsL : Nat → Int → List Nat
  | 0, _ => []
  | f + 1, n => tz32 n :: forceI (bits .and .u32 n ((n - 1) % 4294967296)) (bitsL f)
theorem bitsL_at : ∀ (f : Nat) (n : Int) (j : Nat), j < f → (bitsL f n)[j]? = some (tz32 (clr n j)) := by
  intro f
  induction f with
  | zero => intro n j h; omega
  | succ f ih =>
    intro n j h
    rw [bitsL, forceI_eq]
    cases j with
    | zero => rfl
    | succ j => rw [List.getElem?_cons_succ, ih _ j (by omega), clr]
/-- a digit of base sixteen. -/
def dg (b : UInt8) : Nat := (dig (b.toNat : Int)).toNat
/-- a bit of seven digits. -/
def bit7 (c : List Nat) (i : Nat) : Bool := decide (c.getD (6 - i / 4) 0 / 2 ^ (i % 4) % 2 = 1)
def val7 (c : List Nat) : Int := c.foldl (fun (a : Int) (d : Nat) => a * 16 + (d : Int)) 0
def chkP (v : Int) (P : List Nat) : Bool := pop32 v.toNat == P.length && P == bitsL P.length v
def chkW (c : List Nat) (v : Int) (within : Bool) : Bool := chkP v ((List.range 28).filter fun i => bit7 c i == within)
def chkOwn (c : List Nat) (v : Int) : Bool := (List.range 28).all fun i => decide (bits .and .u32 v (2 ^ i % 4294967296) = 0) == !bit7 c i
def chkC (c : List Nat) : Bool := forceI (val7 c) fun v => chkW c v true && forceI (bits .xor .u32 v 268435455) (fun u => chkW c u false) && chkOwn c v
def chkAll : List UInt8 → Bool
  | a :: b :: c :: d :: e :: f :: g :: r => chkC [dg a, dg b, dg c, dg d, dg e, dg f, dg g] && chkAll r
  | _ => true
set_option maxRecDepth 100000 in
theorem chk_members : chkAll (bl membersB) = true := by decide +kernel
def c7 (l : List UInt8) : List Nat := [dg (l.getD 0 0), dg (l.getD 1 0), dg (l.getD 2 0), dg (l.getD 3 0), dg (l.getD 4 0), dg (l.getD 5 0), dg (l.getD 6 0)]
theorem chkAll_at : ∀ (g : Nat) (l : List UInt8), chkAll l = true → g * 7 + 7 ≤ l.length → chkC (c7 (l.drop (g * 7))) = true := by
  intro g
  induction g with
  | zero =>
    intro l h hl
    match l, hl with
    | a :: b :: c :: d :: e :: f :: g :: r, _ =>
      rw [chkAll, Bool.and_eq_true] at h
      exact h.1
  | succ g ih =>
    intro l h hl
    match l, hl with
    | a :: b :: c :: d :: e :: f :: g' :: r, hl =>
      rw [chkAll, Bool.and_eq_true] at h
      have h1 := ih r h.2 (by simp only [List.length_cons] at hl; omega)
      have e : (g + 1) * 7 = g * 7 + 7 := by omega
      rw [e]
      exact h1
theorem c7_nib (g : Nat) : c7 ((bl membersB).drop (g * 7)) = [nib (g * 7), nib (g * 7 + 1), nib (g * 7 + 2), nib (g * 7 + 3), nib (g * 7 + 4), nib (g * 7 + 5), nib (g * 7 + 6)] := by
  unfold c7 nib memAt dg
  simp only [List.getD_eq_getElem?_getD, List.getElem?_drop, Nat.add_zero]
theorem nibs_at (g j : Nat) (h : j ≤ 6) : [nib (g * 7), nib (g * 7 + 1), nib (g * 7 + 2), nib (g * 7 + 3), nib (g * 7 + 4), nib (g * 7 + 5), nib (g * 7 + 6)].getD j 0 = nib (g * 7 + j) := by
  match j, h with
  | 0, _ => rfl
  | 1, _ => rfl
  | 2, _ => rfl
  | 3, _ => rfl
  | 4, _ => rfl
  | 5, _ => rfl
  | 6, _ => rfl
theorem val7_grp (g : Nat) (hg : g < 399) : val7 (c7 ((bl membersB).drop (g * 7))) = grp g := by
  rw [c7_nib]
  unfold grp
  simp only [grpF, val7, List.foldl]
  rw [nib_dig _ (by omega), nib_dig _ (by omega), nib_dig _ (by omega), nib_dig _ (by omega), nib_dig _ (by omega), nib_dig _ (by omega), nib_dig _ (by omega)]
  simp only [Nat.add_zero]
/-- is the n-th syllable in the rows? -/
noncomputable def inN (n : Nat) : Bool := decide (nib (n / 28 * 7 + 6 - n % 28 / 4) / 2 ^ (n % 28 % 4) % 2 = 1)
theorem inN_bit (g i : Nat) (hi : i < 28) : inN (28 * g + i) = bit7 (c7 ((bl membersB).drop (g * 7))) i := by
  unfold inN bit7
  rw [c7_nib, nibs_at _ _ (by omega), show (28 * g + i) / 28 = g from by omega, show (28 * g + i) % 28 = i from by omega, show g * 7 + 6 - i / 4 = g * 7 + (6 - i / 4) from by omega]
theorem chk_grp (g : Nat) (hg : g < 399) : chkC (c7 ((bl membersB).drop (g * 7))) = true :=
  chkAll_at g _ chk_members (by rw [bl_length, members_size]; omega)
theorem grp_pos (within : Bool) (g : Nat) (hg : g < 399) : ∃ P : List Nat, (List.range' (28 * g) 28).filter (fun n => inN n == within) = P.map (fun i => 28 * g + i) ∧ pop32 (grpW within g).toNat = P.length ∧ P = bitsL P.length (grpW within g) := by
  refine ⟨(List.range 28).filter fun i => bit7 (c7 ((bl membersB).drop (g * 7))) i == within, ?_, ?_⟩
  · rw [List.range'_eq_map_range, List.filter_map]
    congr 1
    refine List.filter_congr fun i hi => ?_
    rw [List.mem_range] at hi
    simp only [Function.comp]
    rw [inN_bit g i hi]
  · have h := chk_grp g hg
    unfold chkC at h
    rw [forceI_eq, forceI_eq, val7_grp g hg, Bool.and_eq_true, Bool.and_eq_true] at h
    have h2 : chkW (c7 ((bl membersB).drop (g * 7))) (grpW within g) within = true := by
      cases within
      · exact h.1.2
      · exact h.1.1
    unfold chkW chkP at h2
    rw [Bool.and_eq_true, beq_iff_eq, beq_iff_eq] at h2
    exact h2
/-- the k-th from the n-th on that is in the rows, or isn't; 0: there is none. -/
noncomputable def kthF (within : Bool) : Nat → Nat → Nat → Int
  | 0, _, _ => 0
  | f + 1, n, k => if inN n = within then (if k = 0 then 44032 + (n : Int) else kthF within f (n + 1) (k - 1)) else kthF within f (n + 1) k
noncomputable def kthM (k : Int) (within : Bool) : Int := if k < 0 then 0 else kthF within 11172 0 k.toNat
theorem kthF_some (within : Bool) : ∀ (m f n k x : Nat), ((List.range' n m).filter fun i => inN i == within)[k]? = some x → kthF within (m + f) n k = 44032 + (x : Int) := by
  intro m
  induction m with
  | zero => intro f n k x h; simp at h
  | succ m ih =>
    intro f n k x h
    rw [show m + 1 + f = (m + f) + 1 from by omega, kthF]
    rw [List.range'_succ, List.filter_cons] at h
    by_cases hw : inN n = within
    · rw [if_pos hw]
      rw [if_pos (show (inN n == within) = true from by simpa using hw)] at h
      cases k with
      | zero => rw [if_pos rfl]; simp at h; rw [h]
      | succ k => rw [if_neg (by omega)]; exact ih f (n + 1) k x (by simpa using h)
    · rw [if_neg hw]
      rw [if_neg (show ¬ (inN n == within) = true from by simpa using hw)] at h
      exact ih f (n + 1) k x h
theorem kthF_none (within : Bool) : ∀ (m f n k : Nat), ((List.range' n m).filter fun i => inN i == within).length ≤ k → kthF within (m + f) n k = kthF within f (n + m) (k - ((List.range' n m).filter fun i => inN i == within).length) := by
  intro m
  induction m with
  | zero => intro f n k h; simp
  | succ m ih =>
    intro f n k h
    rw [show m + 1 + f = (m + f) + 1 from by omega, kthF]
    rw [List.range'_succ, List.filter_cons] at h ⊢
    by_cases hw : inN n = within
    · rw [if_pos hw]
      rw [if_pos (show (inN n == within) = true from by simpa using hw)] at h ⊢
      rw [List.length_cons] at h ⊢
      rw [if_neg (by omega), ih f (n + 1) (k - 1) (by omega), show n + 1 + m = n + (m + 1) from by omega, Nat.sub_sub, Nat.add_comm 1]
    · rw [if_neg hw]
      rw [if_neg (show ¬ (inN n == within) = true from by simpa using hw)] at h ⊢
      rw [ih f (n + 1) k h, show n + 1 + m = n + (m + 1) from by omega]
/-- a sign, 0 as none. -/
def optZ (p : Int) : Int × Bool := if p = 0 then (0, false) else (p, true)
theorem optZ_some (p : Int) (h : p ≠ 0) : optZ p = (p, true) := if_neg h
theorem kth_choose (within : Bool) : ∀ (f g k : Nat), g + f = 399 → chooseF within f g k = optZ (kthF within (28 * f) (28 * g) k) := by
  intro f
  induction f with
  | zero => intro g k h; rfl
  | succ f ih =>
    intro g k h
    obtain ⟨P, hP, hlen, hbits⟩ := grp_pos within g (by omega)
    rw [show 28 * (f + 1) = 28 + 28 * f from by omega, chooseF]
    by_cases hk : pop32 (grpW within g).toNat ≤ k
    · rw [if_pos hk, kthF_none within 28 (28 * f) (28 * g) k (by rw [hP, List.length_map]; omega), hP, List.length_map, ← hlen, show 28 * g + 28 = 28 * (g + 1) from by omega]
      exact ih (g + 1) _ (by omega)
    · rw [if_neg hk]
      have h1 : P[k]? = some (tz32 (clr (grpW within g) k)) := by rw [hbits]; exact bitsL_at _ _ _ (by omega)
      rw [kthF_some within 28 (28 * f) (28 * g) k (28 * g + tz32 (clr (grpW within g) k)) (by rw [hP, List.getElem?_map, h1]; rfl)]
      rw [optZ_some _ (by omega), show (44032 : Int) + (g : Int) * 28 + (tz32 (clr (grpW within g) k) : Nat) = 44032 + ((28 * g + tz32 (clr (grpW within g) k) : Nat) : Int) from by omega]
theorem kthM_eq (k : Int) (within : Bool) : chooseM k within = optZ (kthM k within) := by
  unfold kthM chooseM
  by_cases h : k < 0
  · rw [if_pos h, if_pos h]; rfl
  · rw [if_neg h, if_neg h]
    exact kth_choose within 399 0 k.toNat rfl
theorem members_count : sumL ((bl membersB).take 2793) 0 = 2350 := by decide +kernel
theorem popSum_end : popSum 399 = 2350 := by rw [popSum_nibs 399 (by omega), nibs_sum _ (by omega)]; exact members_count
theorem choose_lt : ∀ (f g k : Nat), (chooseF true f g k).2 = true → k + popSum g < popSum (g + f) := by
  intro f
  induction f with
  | zero => intro g k h; exact absurd h (by rw [chooseF]; decide)
  | succ f ih =>
    intro g k h
    rw [chooseF] at h
    by_cases hk : pop32 (grpW true g).toNat ≤ k
    · rw [if_pos hk] at h
      have h1 := ih _ _ h
      rw [popSum, show grp g = grpW true g from rfl, show g + 1 + f = g + (f + 1) from by omega] at h1
      omega
    · have h2 : popSum (g + 1) ≤ popSum (g + (f + 1)) := by
        have : ∀ d, popSum (g + 1) ≤ popSum (g + 1 + d) := by
          intro d
          induction d with
          | zero => exact Nat.le_refl _
          | succ d ihd => exact Nat.le_trans ihd (by rw [show g + 1 + (d + 1) = (g + 1 + d) + 1 from rfl, popSum]; omega)
        have := this f
        rwa [show g + 1 + f = g + (f + 1) from by omega] at this
      rw [popSum, show grp g = grpW true g from rfl] at h2
      omega
theorem choose_out (k : Int) (h : 2350 ≤ k) : (chooseM k true).2 = false := by
  unfold chooseM
  rw [if_neg (by omega)]
  cases hc : (chooseF true 399 0 k.toNat).2 with
  | false => rfl
  | true =>
    have := choose_lt _ _ _ hc
    rw [show 0 + 399 = 399 from rfl, popSum_end] at this
    omega
theorem rankIn_inN (n : Nat) (h : n < 11172) : rankIn (44032 + (n : Int)) = inN n := by
  have hg : n / 28 < 399 := by omega
  have h1 := chk_grp (n / 28) hg
  unfold chkC at h1
  rw [forceI_eq, forceI_eq, val7_grp _ hg, Bool.and_eq_true, Bool.and_eq_true] at h1
  have h2 := h1.2
  unfold chkOwn at h2
  rw [List.all_eq_true] at h2
  have h3 := h2 (n % 28) (List.mem_range.2 (by omega))
  rw [beq_iff_eq, ← inN_bit _ _ (by omega), show 28 * (n / 28) + n % 28 = n from by omega] at h3
  unfold rankIn ownBit
  rw [show (44032 + (n : Int) - 44032) / 28 = ((n / 28 : Nat) : Int) from by omega, show (44032 + (n : Int) - 44032) % 28 = ((n % 28 : Nat) : Int) from by omega, Int.toNat_natCast, Int.toNat_natCast, h3, Bool.not_not]
end Go.Proofs.YtbijjomknbnmfaaGreatDoor
