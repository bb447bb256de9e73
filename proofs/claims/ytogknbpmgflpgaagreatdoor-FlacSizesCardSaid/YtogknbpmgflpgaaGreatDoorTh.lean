/- Plain: the k-th syllable by counting one by one is the one that the groups give (layer 7). -/
import Derived.Test.YtogknbpmgflpgaaGreatDoorWb
import Derived.Test.YtogknbpmgflpgaaGreatDoorRc
import Derived.Test.YtogknbpmgflpgaaGreatDoorBj
namespace Go.Proofs.YtogknbpmgflpgaaGreatDoor
open Go.RowKit
set_option linter.unusedVariables false
set_option linter.unusedSimpArgs false

/-- a number brought to a numeral ahead of what is made of it. -/
def forceI {α : Type} (n : Int) (k : Int → α) : α := match n with
  | .ofNat m => match m with
    | 0 => k 0
    | m' + 1 => k (Int.ofNat (m' + 1))
  | .negSucc m => k (.negSucc m)
theorem forceI_eq {α : Type} (n : Int) (k : Int → α) : forceI n k = k n := by
  match n with
  | .ofNat 0 => rfl
  | .ofNat (m + 1) => rfl
  | .negSucc m => rfl
/-- the places of the bits that are set, by clearing the lowest again and again. -/
def bitsL : Nat → Int → List Nat
  | 0, _ => []
  | f + 1, n => tz32 n :: forceI (bits .and .u32 n ((n - 1) % 4294967296)) (bitsL f)
theorem bitsL_at : ∀ (f : Nat) (n : Int) (j : Nat), j < f → (bitsL f n)[j]? = some (tz32 (clr n j)) := by
  intro f
  induction f with
  | zero => intro n j h; omega
  | succ f ih =>
    intro n j h
    rw [bitsL, forceI_eq]
    cases j with
    | zero => rfl
    | succ j => rw [List.getElem?_cons_succ, ih _ j (by omega), clr]
/-- a digit of base sixteen. -/
def dg (b : UInt8) : Nat := (dig (b.toNat : Int)).toNat
/-- a bit of seven digits. -/
def bit7 (c : List Nat) (i : Nat) : Bool := decide (c.getD (6 - i / 4) 0 / 2 ^ (i % 4) % 2 = 1)
def val7 (c : List Nat) : Int := c.foldl (fun (a : Int) (d : Nat) => a * 16 + (d : Int)) 0
def chkP (v : Int) (P : List Nat) : Bool := pop32 v.toNat == P.length && P == bitsL P.length v
def chkW (c : List Nat) (v : Int) (within : Bool) : Bool := chkP v ((List.range 28).filter fun i => bit7 c i == within)
def chkOwn (c : List Nat) (v : Int) : Bool := (List.range 28).all fun i => decide (bits .and .u32 v (2 ^ i % 4294967296) = 0) == !bit7 c i
def chkC (c : List Nat) : Bool := forceI (val7 c) fun v => chkW c v true && forceI (bits .xor .u32 v 268435455) (fun u => chkW c u false) && chkOwn c v
def chkAll : List UInt8 → Bool
  | a :: b :: c :: d :: e :: f :: g :: r => chkC [dg a, dg b, dg c, dg d, dg e, dg f, dg g] && chkAll r
  | _ => true
set_option maxRecDepth 100000 in
theorem chk_members : chkAll (bl membersB) = true := by decide +kernel
def c7 (l : List UInt8) : List Nat := [dg (l.getD 0 0), dg (l.getD 1 0), dg (l.getD 2 0), dg (l.getD 3 0), dg (l.getD 4 0), dg (l.getD 5 0), dg (l.getD 6 0)]
theorem chkAll_at : ∀ (g : Nat) (l : List UInt8), chkAll l = true → g * 7 + 7 ≤ l.length → chkC (c7 (l.drop (g * 7))) = true := by
  intro g
  induction g with
  | zero =>
    intro l h hl
    match l, hl with
    | a :: b :: c :: d :: e :: f :: g :: r, _ =>
      rw [chkAll, Bool.and_eq_true] at h
      exact h.1
  | succ g ih =>
    intro l h hl
    match l, hl with
    | a :: b :: c :: d :: e :: f :: g' :: r, hl =>
      rw [chkAll, Bool.and_eq_true] at h
      have h1 := ih r h.2 (by simp only [List.length_cons] at hl; omega)
      have e : (g + 1) * 7 = g * 7 + 7 := by omega
      rw [e]
      exact h1
theorem c7_nib (g : Nat) : c7 ((bl membersB).drop (g * 7)) = [nib (g * 7), nib (g * 7 + 1), nib (g * 7 + 2), nib (g * 7 + 3), nib (g * 7 + 4), nib (g * 7 + 5), nib (g * 7 + 6)] := by
  unfold c7 nib memAt dg
  simp only [List.getD_eq_getElem?_getD, List.getElem?_drop, Nat.add_zero]
theorem nibs_at (g j : Nat) (h : j ≤ 6) : [nib (g * 7), nib (g * 7 + 1), nib (g * 7 + 2), nib (g * 7 + 3), nib (g * 7 + 4), nib (g * 7 + 5), nib (g * 7 + 6)].getD j 0 = nib (g * 7 + j) := by
  match j, h with
  | 0, _ => rfl
  | 1, _ => rfl
  | 2, _ => rfl
  | 3, _ => rfl
  | 4, _ => rfl
  | 5, _ => rfl
  | 6, _ => rfl
theorem val7_grp (g : Nat) (hg : g < 399) : val7 (c7 ((bl membersB).drop (g * 7))) = grp g := by
  rw [c7_nib]
  unfold grp
  simp only [grpF, val7, List.foldl]
  rw [nib_dig _ (by omega), nib_dig _ (by omega), nib_dig _ (by omega), nib_dig _ (by omega), nib_dig _ (by omega), nib_dig _ (by omega), nib_dig _ (by omega)]
  simp only [Nat.add_zero]
/-- is the n-th syllable in the rows? -/
noncomputable def inN (n : Nat) : Bool := decide (nib (n / 28 * 7 + 6 - n % 28 / 4) / 2 ^ (n % 28 % 4) % 2 = 1)
theorem inN_bit (g i : Nat) (hi : i < 28) : inN (28 * g + i) = bit7 (c7 ((bl membersB).drop (g * 7))) i := by
  unfold inN bit7
  rw [c7_nib, nibs_at _ _ (by omega), show (28 * g + i) / 28 = g from by omega, show (28 * g + i) % 28 = i from by omega, show g * 7 + 6 - i / 4 = g * 7 + (6 - i / 4) from by omega]
theorem chk_grp (g : Nat) (hg : g < 399) : chkC (c7 ((bl membersB).drop (g * 7))) = true :=
  chkAll_at g _ chk_members (by rw [bl_length, members_size]; omega)
theorem grp_pos (within : Bool) (g : Nat) (hg : g < 399) : ∃ P : List Nat, (List.range' (28 * g) 28).filter (fun n => inN n == within) = P.map (fun i => 28 * g + i) ∧ pop32 (grpW within g).toNat = P.length ∧ P = bitsL P.length (grpW within g) := by
  refine ⟨(List.range 28).filter fun i => bit7 (c7 ((bl membersB).drop (g * 7))) i == within, ?_, ?_⟩
  · rw [List.range'_eq_map_range, List.filter_map]
    congr 1
    refine List.filter_congr fun i hi => ?_
    rw [List.mem_range] at hi
    simp only [Function.comp]
    rw [inN_bit g i hi]
  · have h := chk_grp g hg
    unfold chkC at h
    rw [forceI_eq, forceI_eq, val7_grp g hg, Bool.and_eq_true, Bool.and_eq_true] at h
    have h2 : chkW (c7 ((bl membersB).drop (g * 7))) (grpW within g) within = true := by
      cases within
      · exact h.1.2
      · exact h.1.1
    unfold chkW chkP at h2
    rw [Bool.and_eq_true, beq_iff_eq, beq_iff_eq] at h2
    exact h2
/-- the k-th from the n-th on that is in the rows, or isn't; 0: there is none. -/
noncomputable def kthF (within : Bool) : Nat → Nat → Nat → Int
  | 0, _, _ => 0
  | f + 1, n, k => if inN n = within then (if k = 0 then 44032 + (n : Int) else kthF within f (n + 1) (k - 1)) else kthF within f (n + 1) k
noncomputable def kthM (k : Int) (within : Bool) : Int := if k < 0 then 0 else kthF within 11172 0 k.toNat
theorem kthF_some (within : Bool) : ∀ (m f n k x : Nat), ((List.range' n m).filter fun i => inN i == within)[k]? = some x → kthF within (m + f) n k = 44032 + (x : Int) := by
  intro m
  induction m with
  | zero => intro f n k x h; simp at h
  | succ m ih =>
    intro f n k x h
    rw [show m + 1 + f = (m + f) + 1 from by omega, kthF]
    rw [List.range'_succ, List.filter_cons] at h
    by_cases hw : inN n = within
    · rw [if_pos hw]
      rw [if_pos (show (inN n == within) = true from by simpa using hw)] at h
      cases k with
      | zero => rw [if_pos rfl]; simp at h; rw [h]
      | succ k => rw [if_neg (by omega)]; exact ih f (n + 1) k x (by simpa using h)
    · rw [if_neg hw]
      rw [if_neg (show ¬ (inN n == within) = true from by simpa using hw)] at h
      exact ih f (n + 1) k x h
theorem kthF_none (within : Bool) : ∀ (m f n k : Nat), ((List.range' n m).filter fun i => inN i == within).length ≤ k → kthF within (m + f) n k = kthF within f (n + m) (k - ((List.range' n m).filter fun i => inN i == within).length) := by
  intro m
  induction m with
  | zero => intro f n k h; simp
  | succ m ih =>
    intro f n k h
    rw [show m + 1 + f = (m + f) + 1 from by omega, kthF]
    rw [List.range'_succ, List.filter_cons] at h ⊢
    by_cases hw : inN n = within
    · rw [if_pos hw]
      rw [if_pos (show (inN n == within) = true from by simpa using hw)] at h ⊢
      rw [List.length_cons] at h ⊢
      rw [if_neg (by omega), ih f (n + 1) (k - 1) (by omega), show n + 1 + m = n + (m + 1) from by omega, Nat.sub_sub, Nat.add_comm 1]
    · rw [if_neg hw]
      rw [if_neg (show ¬ (inN n == within) = true from by simpa using hw)] at h ⊢
      rw [ih f (n + 1) k h, show n + 1 + m = n + (m + 1) from by omega]
/-- a sign, 0 as none. -/
def optZ (p : Int) : Int × Bool := if p = 0 then (0, false) else (p, true)
theorem optZ_some (p : Int) (h : p ≠ 0) : optZ p = (p, true) := if_neg h
theorem kth_choose (within : Bool) : ∀ (f g k : Nat), g + f = 399 → chooseF within f g k = optZ (kthF within (28 * f) (28 * g) k) := by
  intro f
  induction f with
  | zero => intro g k h; rfl
  | succ f ih =>
    intro g k h
    obtain ⟨P, hP, hlen, hbits⟩ := grp_pos within g (by omega)
    rw [show 28 * (f + 1) = 28 + 28 * f from by omega, chooseF]
    by_cases hk : pop32 (grpW within g).toNat ≤ k
    · rw [if_pos hk, kthF_none within 28 (28 * f) (28 * g) k (by rw [hP, List.length_map]; omega), hP, List.length_map, ← hlen, show 28 * g + 28 = 28 * (g + 1) from by omega]
      exact ih (g + 1) _ (by omega)
    · rw [if_neg hk]
      have h1 : P[k]? = some (tz32 (clr (grpW within g) k)) := by rw [hbits]; exact bitsL_at _ _ _ (by omega)
      rw [kthF_some within 28 (28 * f) (28 * g) k (28 * g + tz32 (clr (grpW within g) k)) (by rw [hP, List.getElem?_map, h1]; rfl)]
      rw [optZ_some _ (by omega), show (44032 : Int) + (g : Int) * 28 + (tz32 (clr (grpW within g) k) : Nat) = 44032 + ((28 * g + tz32 (clr (grpW within g) k) : Nat) : Int) from by omega]
theorem kthM_eq (k : Int) (within : Bool) : chooseM k within = optZ (kthM k within) := by
  unfold kthM chooseM
  by_cases h : k < 0
  · rw [if_pos h, if_pos h]; rfl
  · rw [if_neg h, if_neg h]
    exact kth_choose within 399 0 k.toNat rfl
theorem members_count : sumL ((bl membersB).take 2793) 0 = 2350 := by decide +kernel
theorem popSum_end : popSum 399 = 2350 := by rw [popSum_nibs 399 (by omega), nibs_sum _ (by omega)]; exact members_count
theorem choose_lt : ∀ (f g k : Nat), (chooseF true f g k).2 = true → k + popSum g < popSum (g + f) := by
  intro f
  induction f with
  | zero => intro g k h; exact absurd h (by rw [chooseF]; decide)
  | succ f ih =>
    intro g k h
    rw [chooseF] at h
    by_cases hk : pop32 (grpW true g).toNat ≤ k
    · rw [if_pos hk] at h
      have h1 := ih _ _ h
      rw [popSum, show grp g = grpW true g from rfl, show g + 1 + f = g + (f + 1) from by omega] at h1
      omega
    · have h2 : popSum (g + 1) ≤ popSum (g + (f + 1)) := by
        have : ∀ d, popSum (g + 1) ≤ popSum (g + 1 + d) := by
          intro d
          induction d with
          | zero => exact Nat.le_refl _
          | succ d ihd => exact Nat.le_trans ihd (by rw [show g + 1 + (d + 1) = (g + 1 + d) + 1 from rfl, popSum]; omega)
        have := this f
        rwa [show g + 1 + f = g + (f + 1) from by omega] at this
      rw [popSum, show grp g = grpW true g from rfl] at h2
      omega
theorem choose_out (k : Int) (h : 2350 ≤ k) : (chooseM k true).2 = false := by
  unfold chooseM
  rw [if_neg (by omega)]
  cases hc : (chooseF true 399 0 k.toNat).2 with
  | false => rfl
  | true =>
    have := choose_lt _ _ _ hc
    rw [show 0 + 399 = 399 from rfl, popSum_end] at this
    omega
theorem rankIn_inN (n : Nat) (h : n < 11172) : rankIn (44032 + (n : Int)) = inN n := by
  have hg : n / 28 < 399 := by omega
  have h1 := chk_grp (n / 28) hg
  unfold chkC at h1
  rw [forceI_eq, forceI_eq, val7_grp _ hg, Bool.and_eq_true, Bool.and_eq_true] at h1
  have h2 := h1.2
  unfold chkOwn at h2
  rw [List.all_eq_true] at h2
  have h3 := h2 (n % 28) (List.mem_range.2 (by omega))
  rw [beq_iff_eq, ← inN_bit _ _ (by omega), show 28 * (n / 28) + n % 28 = n from by omega] at h3
  unfold rankIn ownBit
  rw [show (44032 + (n : Int) - 44032) / 28 = ((n / 28 : Nat) : Int) from by omega, show (44032 + (n : Int) - 44032) % 28 = ((n % 28 : Nat) : Int) from by omega, Int.toNat_natCast, Int.toNat_natCast, h3, Bool.not_not]
end Go.Proofs.YtogknbpmgflpgaaGreatDoor
/- Walks: the reference's signs of two bytes (layer 7). -/
namespace Go.Proofs.YtogknbpmgflpgaaGreatDoor
open Go.RowKit
set_option linter.unusedVariables false
set_option linter.unusedSimpArgs false

theorem digit_any (s : Int) (w : World) (h0 : 0 ≤ s) (h1 : s ≤ 255) :
    Calls Tryz.prog 246 #[.int .u8 s] w fun e w' => e = .returned (.int .i64 (dig s)) ∧ w = w' := by
  go_enter Tryz.func246, Tryz.ntmps246
  go_wp2
  all_goals go_ret
  all_goals (refine ⟨ret_i ?_, rfl⟩; unfold dig; split <;> omega)
theorem second7_any (s : Int) (w : World) (h0 : -1000 ≤ s) (h1 : s ≤ 1000) :
    Calls Tryz.prog 204 #[.int .i64 s] w fun e w' => e = .returned (.int .i64 (numberM s)) ∧ w = w' := by
  go_enter Tryz.func204, Tryz.ntmps204
  go_wp2
  all_goals go_ret
  all_goals (refine ⟨ret_i ?_, rfl⟩; unfold numberM; omega)
def spanW (b f l p : Int) : Int := if b < f ∨ l < b then 0 else p + (b - f)
theorem span7_any (b f l p : Int) (w : World) (hb0 : 0 ≤ b) (hb1 : b ≤ 1000) (hf0 : 0 ≤ f) (hf1 : f ≤ 1000) (hl0 : 0 ≤ l) (hl1 : l ≤ 1000) (hp0 : 0 ≤ p) (hp1 : p ≤ 100000) :
    Calls Tryz.prog 237 #[.int .i64 b, .int .i64 f, .int .i64 l, .int .i32 p] w fun e w' => e = .returned (.int .i32 (spanW b f l p)) ∧ w = w' := by
  go_enter Tryz.func237, Tryz.ntmps237
  go_wp2
  all_goals go_ret
  all_goals (refine ⟨ret_i ?_, rfl⟩; unfold spanW; split <;> omega)
set_option maxRecDepth 100000 in
set_option maxHeartbeats 2000000 in
theorem in_any (n : Nat) (w : World) (hn : n < 11172) :
    Calls Tryz.prog 233 #[.int .i64 n] w fun e w' => e = .returned (.bool (inN n)) ∧ w = w' := by
  obtain ⟨i, hi⟩ : ∃ i, i = n / 28 * 7 + 6 - n % 28 / 4 := ⟨_, rfl⟩
  have hi' : i < 2793 := by omega
  have hm := members_at i hi'
  have hd := nib_dig i hi'
  have hl := nib_lt i hi'
  have hr : inN n = decide (nib i / 2 ^ (n % 28 % 4) % 2 = 1) := by unfold inN; rw [hi]
  rw [hr]
  obtain ⟨D, hD⟩ : ∃ D, D = nib i := ⟨_, rfl⟩
  rw [← hD] at hd hl ⊢
  have hx := (memAt i).toNat_lt
  have c1 := fun w => digit_any ((memAt i).toNat : Int) w (by omega) (by omega)
  rw [hd] at c1
  have hk3 : n % 28 % 4 ≤ 3 := by omega
  obtain ⟨B, hB⟩ : ∃ B, B = n % 28 % 4 := ⟨_, rfl⟩
  have hBi : (n : Int) % 28 % 4 = (B : Int) := by omega
  rw [← hB] at hk3 ⊢
  have HB := Lib.hid hBi
  obtain ⟨r, hr2⟩ : ∃ r, r = decide (D / 2 ^ B % 2 = 1) := ⟨_, rfl⟩
  rw [← hr2]
  have HR2 := Lib.hid hr2
  clear hr2
  clear hr hd hD hi' hB hBi
  generalize memAt i = x at *
  have HM := Lib.hid hm
  have C1 := Lib.hid c1
  have HI := Lib.hid hi
  clear hm c1 hi
  go_enter Tryz.func233, Tryz.ntmps233
  go_wp2_with (first
    | (with_reducible refine wpList_indexC membersB rfl rfl Tryz.underlying9 (by kernel_rfl) .i64 _ i (by have := HI.out; omega) x rfl HM.out ?_)
    | (go_at_call 246; refine (C1.out _).mono ?_; rintro e w1 ⟨rfl, rfl⟩))
  go_loop [4, 5] (fun d i => ∃ j E : Nat, j ≤ B ∧ i = .int .i64 (j : Int) ∧ d = .int .i64 (E : Int) ∧ E ≤ 15 ∧ Hid (E = D / 2 ^ j)) (fun _ i => (B - intOf i).toNat)
  case atStart => exact ⟨0, D, Nat.zero_le _, rfl, rfl, by omega, Lib.hid (by simp)⟩
  case round =>
    obtain ⟨j, E, hj, rfl, rfl, hE0, hE⟩ := hrel
    have hs : Hid (E / 2 = D / 2 ^ (j + 1)) := Lib.hid (by rw [hE.out, Nat.pow_succ, Nat.div_div_eq_div_mul])
    have HBo := HB.out
    by_cases hlt : j < B
    · go_wp2
      go_round
      case rel => exact ⟨j + 1, E / 2, by omega, by go_num, by go_num, by omega, hs⟩
      case measure => simp [intOf]; omega
    · have hjB : j = B := by omega
      subst hjB
      go_wp2
      go_ret
      exact ⟨ret_b (by rw [HR2.out, ← hE.out, Bool.eq_iff_iff, beq_iff_eq, decide_eq_true_eq]; omega), rfl⟩
set_option maxRecDepth 100000 in
set_option maxHeartbeats 2000000 in
theorem kth_any (k : Int) (within : Bool) (w : World) (hk : k < 100000) (hk0 : -100000 < k) :
    Calls Tryz.prog 205 #[.int .i64 k, .bool within] w fun e w' => e = .returned (.int .i32 (kthM k within)) ∧ w = w' := by
  by_cases hneg : k < 0
  · have e : kthM k within = 0 := by unfold kthM; rw [if_pos hneg]
    rw [e]
    go_enter Tryz.func205, Tryz.ntmps205
    go_wp2
    go_ret
    exact ⟨rfl, rfl⟩
  · obtain ⟨k, rfl⟩ := Int.eq_ofNat_of_zero_le (show 0 ≤ k from by omega)
    obtain ⟨F, hF⟩ : ∃ F, F = 11172 := ⟨_, rfl⟩
    obtain ⟨R, hR⟩ : ∃ R, R = kthF within F 0 k := ⟨_, rfl⟩
    have e : kthM k within = R := by unfold kthM; rw [if_neg hneg, Int.toNat_natCast, hR, hF]
    rw [e]
    have HF : Hid (0 + F = 11172) := Lib.hid (by omega)
    clear e hF
    have C1 := Lib.hid (fun n w hn => in_any n w hn)
    have HR := Lib.hid hR
    clear hR
    go_enter Tryz.func205, Tryz.ntmps205
    go_wp2
    go_loopw [0, 5] (fun kv nv wr => ∃ (f n j : Nat), kv = .int .i64 (j : Int) ∧ nv = .int .i64 (n : Int) ∧ Hid (n + f = 11172) ∧ n ≤ 11172 ∧ j ≤ 100000 ∧ Hid (kthF within f n j = R) ∧ wr = w) (fun _ nv _ => (11172 - intOf nv).toNat)
    case atStart => exact ⟨F, 0, k, rfl, rfl, HF, by omega, by omega, Lib.hid HR.out.symm, rfl⟩
    case round =>
      obtain ⟨f, n, j, rfl, rfl, hf, hn, hj, hQ, rfl⟩ := hrel
      by_cases hlt : n < 11172
      · obtain ⟨f, rfl⟩ : ∃ g, f = g + 1 := ⟨f - 1, by have := hf.out; omega⟩
        have hf1 : Hid (n + 1 + f = 11172) := Lib.hid (by have := hf.out; omega)
        have k1 := fun w => C1.out n w hlt
        have hq := hQ.out
        rw [kthF] at hq
        clear hQ
        have hI : (n : Int) < 11172 := by omega
        have hjI : (j : Int) ≤ 100000 := by omega
        clear hlt hn hj hk hk0 hneg
        generalize inN n = b at *
        by_cases hz : j = 0
        · subst hz
          simp only [if_true] at hq
          cases b <;> cases within
          all_goals (simp only [if_true, if_false, reduceCtorEq] at hq)
          all_goals
            have K1 := Lib.hid k1
            have HQ := Lib.hid hq
            clear k1 hq
            first
              | (go_wp2_with (go_at_call 233; refine (K1.out _).mono ?_; rintro e w1 ⟨rfl, rfl⟩)
                 go_ret
                 exact ⟨ret_i HQ.out, rfl⟩)
              | (go_wp2_with (go_at_call 233; refine (K1.out _).mono ?_; rintro e w1 ⟨rfl, rfl⟩)
                 go_roundw
                 case rel => exact ⟨f, n + 1, 0, rfl, by go_num, hf1, by omega, by omega, HQ, by trivial⟩
                 case measure => simp [intOf]; omega)
        · have hzz : ¬ (j : Int) = 0 := by omega
          simp only [if_neg hz] at hq
          cases b <;> cases within
          all_goals (simp only [if_true, if_false, reduceCtorEq] at hq)
          all_goals
            have K1 := Lib.hid k1
            have HQ := Lib.hid hq
            clear k1 hq
            go_wp2_with (go_at_call 233; refine (K1.out _).mono ?_; rintro e w1 ⟨rfl, rfl⟩)
            go_roundw
            case rel => first
              | exact ⟨f, n + 1, j - 1, by go_num, by go_num, hf1, by omega, by omega, HQ, by trivial⟩
              | exact ⟨f, n + 1, j, rfl, by go_num, hf1, by omega, by omega, HQ, by trivial⟩
            case measure => simp [intOf]; omega
      · have hI : ¬ (n : Int) < 11172 := by omega
        have hf0 : f = 0 := by have := hf.out; omega
        subst hf0
        clear hlt hn hf hj
        go_wp2
        go_ret
        exact ⟨ret_i (by rw [← hQ.out]; rfl), rfl⟩
noncomputable def a1T : ByteArray := constArg Tryz.f206 3 2
noncomputable def a2T : ByteArray := constArg Tryz.f206 6 2
noncomputable def a6T : ByteArray := constArg Tryz.f206 19 2
theorem a1T_len : a1T.size ≤ 1000 ∧ (scanL (bl a1T)).2 = none ∧ (pts (bl a1T)).length = 94 := by refine ⟨?_, ?_, ?_⟩ <;> decide +kernel
theorem a2T_len : a2T.size ≤ 1000 ∧ (scanL (bl a2T)).2 = none ∧ (pts (bl a2T)).length = 71 := by refine ⟨?_, ?_, ?_⟩ <;> decide +kernel
theorem a6T_len : a6T.size ≤ 1000 ∧ (scanL (bl a6T)).2 = none ∧ (pts (bl a6T)).length = 68 := by refine ⟨?_, ?_, ?_⟩ <;> decide +kernel
/-- a row that is told by spans. -/
def rowS (lead b : Int) : Int :=
  if lead = 163 then (if b = 220 then 65510 else if b = 254 then 65507 else 65281 + b - 161)
  else if lead = 164 then 12593 + b - 161
  else if lead = 165 then spanW b 161 170 8560 + spanW b 176 185 8544 + spanW b 193 209 913 + spanW b 210 216 931 + spanW b 225 241 945 + spanW b 242 248 963
  else if lead = 170 then spanW b 161 243 12353
  else if lead = 171 then spanW b 161 246 12449
  else if lead = 172 then spanW b 161 166 1040 + spanW b 167 167 1025 + spanW b 168 193 1046 + spanW b 209 214 1072 + spanW b 215 215 1105 + spanW b 216 241 1078
  else 0
noncomputable def rowW (lead b : Int) : Int :=
  if lead = 161 then (pts (bl a1T)).getD (b - 161).toNat 0
  else if lead = 162 then (if b - 161 < 71 then (pts (bl a2T)).getD (b - 161).toNat 0 else 0)
  else if lead = 166 then (if b - 161 < 68 then (pts (bl a6T)).getD (b - 161).toNat 0 else 0)
  else rowS lead b
theorem spanW_bd (b f l p : Int) (hb0 : 0 ≤ b) (hb1 : b ≤ 1000) (hf0 : 0 ≤ f) (hp0 : 0 ≤ p) (hp1 : p ≤ 100000) : 0 ≤ spanW b f l p ∧ spanW b f l p ≤ 101000 := by unfold spanW; omega
theorem nthD (T : ByteArray) (b : Int) (n : Nat) (hb0 : 161 ≤ b) (hb1 : b - 161 < n) (h : T.size ≤ 1000 ∧ (scanL (bl T)).2 = none ∧ (pts (bl T)).length = n) (S : ByteArray) (hS : S = T) (w : World) :
    Calls Tryz.prog 200 #[.string S, .int .i64 (b - 161)] w fun e w' => e = .returned (.int .i32 ((pts (bl T)).getD (b - 161).toNat 0)) ∧ Below w.heap.size w w' := by
  obtain ⟨p, hp⟩ := at_some (pts (bl T)) (b - 161).toNat (by omega)
  have e : (pts (bl T)).getD (b - 161).toNat 0 = p := by rw [List.getD, hp]; rfl
  rw [e]
  exact nth_lit S T hS (b - 161).toNat (b - 161) p w (by omega) h.1 h.2.1 hp
set_option maxRecDepth 100000 in
set_option maxHeartbeats 4000000 in
theorem row7_any (lead b : Int) (w : World) (h0 : 161 ≤ lead) (h1 : lead ≤ 254) (h2 : 161 ≤ b) (h3 : b ≤ 254) :
    Calls Tryz.prog 206 #[.int .i64 lead, .int .i64 b] w fun e w' => e = .returned (.int .i32 (rowW lead b)) ∧ Below w.heap.size w w' := by
  by_cases c1 : lead = 161
  · subst c1
    have he : rowW 161 b = (pts (bl a1T)).getD (b - 161).toNat 0 := by unfold rowW; rw [if_pos rfl]
    rw [he]
    have k1 := nthD a1T b 94 h2 (by omega) a1T_len
    have K1 := Lib.hid k1
    have HE := Lib.hid he
    clear k1 he
    go_enter Tryz.func206, Tryz.ntmps206
    go_wp2_with (go_at_call 200; refine (K1.out _ (by kernel_rfl) _).mono ?_; rintro e w1 ⟨rfl, hb1⟩)
    go_ret
    exact ⟨rfl, hb1⟩
  by_cases c2 : lead = 162
  · subst c2
    by_cases hl : b - 161 < 71
    · have he : rowW 162 b = (pts (bl a2T)).getD (b - 161).toNat 0 := by unfold rowW; rw [if_neg (by omega), if_pos rfl, if_pos hl]
      rw [he]
      have k1 := nthD a2T b 71 h2 (by omega) a2T_len
      have K1 := Lib.hid k1
      have HE := Lib.hid he
      clear k1 he
      go_enter Tryz.func206, Tryz.ntmps206
      go_wp2_with (go_at_call 200; refine (K1.out _ (by kernel_rfl) _).mono ?_; rintro e w1 ⟨rfl, hb1⟩)
      go_ret
      exact ⟨rfl, hb1⟩
    · have he : rowW 162 b = 0 := by unfold rowW; rw [if_neg (by omega), if_pos rfl, if_neg hl]
      rw [he]
      have HE := Lib.hid he
      clear he
      go_enter Tryz.func206, Tryz.ntmps206
      go_wp2
      go_ret
      exact ⟨rfl, Below.refl _ _⟩
  by_cases c6 : lead = 166
  · subst c6
    by_cases hl : b - 161 < 68
    · have he : rowW 166 b = (pts (bl a6T)).getD (b - 161).toNat 0 := by unfold rowW; rw [if_neg (by omega), if_neg (by omega), if_pos rfl, if_pos hl]
      rw [he]
      have k1 := nthD a6T b 68 h2 (by omega) a6T_len
      have K1 := Lib.hid k1
      have HE := Lib.hid he
      clear k1 he
      go_enter Tryz.func206, Tryz.ntmps206
      go_wp2_with (go_at_call 200; refine (K1.out _ (by kernel_rfl) _).mono ?_; rintro e w1 ⟨rfl, hb1⟩)
      go_ret
      exact ⟨rfl, hb1⟩
    · have he : rowW 166 b = 0 := by unfold rowW; rw [if_neg (by omega), if_neg (by omega), if_pos rfl, if_neg hl]
      rw [he]
      have HE := Lib.hid he
      clear he
      go_enter Tryz.func206, Tryz.ntmps206
      go_wp2
      go_ret
      exact ⟨rfl, Below.refl _ _⟩
  have he : rowW lead b = rowS lead b := by unfold rowW; rw [if_neg c1, if_neg c2, if_neg c6]
  rw [he]
  clear he
  have C1 := Lib.hid (fun f l p w a b' c d e g => span7_any b f l p w (by omega) (by omega) a b' c d e g)
  have bd := fun f l p a c d => spanW_bd b f l p (by omega) (by omega) a c d
  by_cases c3 : lead = 163
  · subst c3
    have he : rowS 163 b = if b = 220 then 65510 else if b = 254 then 65507 else 65281 + b - 161 := by unfold rowS; rw [if_pos rfl]
    rw [he]
    clear C1 bd he
    by_cases b1 : b = 220
    · subst b1
      go_enter Tryz.func206, Tryz.ntmps206
      go_wp2
      go_ret
      exact ⟨rfl, Below.refl _ _⟩
    by_cases b2 : b = 254
    · subst b2
      go_enter Tryz.func206, Tryz.ntmps206
      go_wp2
      go_ret
      exact ⟨rfl, Below.refl _ _⟩
    · rw [if_neg b1, if_neg b2]
      go_enter Tryz.func206, Tryz.ntmps206
      go_wp2
      go_ret
      exact ⟨rfl, Below.refl _ _⟩
  by_cases c4 : lead = 164
  · subst c4
    have he : rowS 164 b = 12593 + b - 161 := by unfold rowS; rw [if_neg (by omega), if_pos rfl]
    rw [he]
    clear C1 bd he
    go_enter Tryz.func206, Tryz.ntmps206
    go_wp2
    go_ret
    exact ⟨rfl, Below.refl _ _⟩
  by_cases c5 : lead = 165
  · subst c5
    have he : rowS 165 b = spanW b 161 170 8560 + spanW b 176 185 8544 + spanW b 193 209 913 + spanW b 210 216 931 + spanW b 225 241 945 + spanW b 242 248 963 := by unfold rowS; rw [if_neg (by omega), if_neg (by omega), if_pos rfl]
    rw [he]
    have k1 := fun w => C1.out 161 170 8560 w (by omega) (by omega) (by omega) (by omega) (by omega) (by omega)
    have k2 := fun w => C1.out 176 185 8544 w (by omega) (by omega) (by omega) (by omega) (by omega) (by omega)
    have k3 := fun w => C1.out 193 209 913 w (by omega) (by omega) (by omega) (by omega) (by omega) (by omega)
    have k4 := fun w => C1.out 210 216 931 w (by omega) (by omega) (by omega) (by omega) (by omega) (by omega)
    have k5 := fun w => C1.out 225 241 945 w (by omega) (by omega) (by omega) (by omega) (by omega) (by omega)
    have k6 := fun w => C1.out 242 248 963 w (by omega) (by omega) (by omega) (by omega) (by omega) (by omega)
    have b1 := bd 161 170 8560 (by omega) (by omega) (by omega)
    have b2 := bd 176 185 8544 (by omega) (by omega) (by omega)
    have b3 := bd 193 209 913 (by omega) (by omega) (by omega)
    have b4 := bd 210 216 931 (by omega) (by omega) (by omega)
    have b5 := bd 225 241 945 (by omega) (by omega) (by omega)
    have b6 := bd 242 248 963 (by omega) (by omega) (by omega)
    generalize spanW b 161 170 8560 = q1 at *
    generalize spanW b 176 185 8544 = q2 at *
    generalize spanW b 193 209 913 = q3 at *
    generalize spanW b 210 216 931 = q4 at *
    generalize spanW b 225 241 945 = q5 at *
    generalize spanW b 242 248 963 = q6 at *
    have K1 := Lib.hid k1
    have K2 := Lib.hid k2
    have K3 := Lib.hid k3
    have K4 := Lib.hid k4
    have K5 := Lib.hid k5
    have K6 := Lib.hid k6
    clear k1 k2 k3 k4 k5 k6
    clear C1 bd he
    go_enter Tryz.func206, Tryz.ntmps206
    go_wp2_with (first
      | (go_at_call 237; with_reducible refine (K1.out _).mono ?_; rintro e w1 ⟨rfl, rfl⟩)
      | (go_at_call 237; with_reducible refine (K2.out _).mono ?_; rintro e w1 ⟨rfl, rfl⟩)
      | (go_at_call 237; with_reducible refine (K3.out _).mono ?_; rintro e w1 ⟨rfl, rfl⟩)
      | (go_at_call 237; with_reducible refine (K4.out _).mono ?_; rintro e w1 ⟨rfl, rfl⟩)
      | (go_at_call 237; with_reducible refine (K5.out _).mono ?_; rintro e w1 ⟨rfl, rfl⟩)
      | (go_at_call 237; with_reducible refine (K6.out _).mono ?_; rintro e w1 ⟨rfl, rfl⟩))
    go_ret
    exact ⟨ret_i (by first | rfl | omega), Below.refl _ _⟩
  by_cases c7 : lead = 170
  · subst c7
    have he : rowS 170 b = spanW b 161 243 12353 := by unfold rowS; rw [if_neg (by omega), if_neg (by omega), if_neg (by omega), if_pos rfl]
    rw [he]
    have k1 := fun w => C1.out 161 243 12353 w (by omega) (by omega) (by omega) (by omega) (by omega) (by omega)
    have K1 := Lib.hid k1
    clear k1
    clear C1 bd he
    go_enter Tryz.func206, Tryz.ntmps206
    go_wp2_with (go_at_call 237; with_reducible refine (K1.out _).mono ?_; rintro e w1 ⟨rfl, rfl⟩)
    go_ret
    exact ⟨rfl, Below.refl _ _⟩
  by_cases c8 : lead = 171
  · subst c8
    have he : rowS 171 b = spanW b 161 246 12449 := by unfold rowS; rw [if_neg (by omega), if_neg (by omega), if_neg (by omega), if_neg (by omega), if_pos rfl]
    rw [he]
    have k1 := fun w => C1.out 161 246 12449 w (by omega) (by omega) (by omega) (by omega) (by omega) (by omega)
    have K1 := Lib.hid k1
    clear k1
    clear C1 bd he
    go_enter Tryz.func206, Tryz.ntmps206
    go_wp2_with (go_at_call 237; with_reducible refine (K1.out _).mono ?_; rintro e w1 ⟨rfl, rfl⟩)
    go_ret
    exact ⟨rfl, Below.refl _ _⟩
  by_cases c9 : lead = 172
  · subst c9
    have he : rowS 172 b = spanW b 161 166 1040 + spanW b 167 167 1025 + spanW b 168 193 1046 + spanW b 209 214 1072 + spanW b 215 215 1105 + spanW b 216 241 1078 := by
      unfold rowS; rw [if_neg (by omega), if_neg (by omega), if_neg (by omega), if_neg (by omega), if_neg (by omega), if_pos rfl]
    rw [he]
    have k1 := fun w => C1.out 161 166 1040 w (by omega) (by omega) (by omega) (by omega) (by omega) (by omega)
    have k2 := fun w => C1.out 167 167 1025 w (by omega) (by omega) (by omega) (by omega) (by omega) (by omega)
    have k3 := fun w => C1.out 168 193 1046 w (by omega) (by omega) (by omega) (by omega) (by omega) (by omega)
    have k4 := fun w => C1.out 209 214 1072 w (by omega) (by omega) (by omega) (by omega) (by omega) (by omega)
    have k5 := fun w => C1.out 215 215 1105 w (by omega) (by omega) (by omega) (by omega) (by omega) (by omega)
    have k6 := fun w => C1.out 216 241 1078 w (by omega) (by omega) (by omega) (by omega) (by omega) (by omega)
    have b1 := bd 161 166 1040 (by omega) (by omega) (by omega)
    have b2 := bd 167 167 1025 (by omega) (by omega) (by omega)
    have b3 := bd 168 193 1046 (by omega) (by omega) (by omega)
    have b4 := bd 209 214 1072 (by omega) (by omega) (by omega)
    have b5 := bd 215 215 1105 (by omega) (by omega) (by omega)
    have b6 := bd 216 241 1078 (by omega) (by omega) (by omega)
    generalize spanW b 161 166 1040 = q1 at *
    generalize spanW b 167 167 1025 = q2 at *
    generalize spanW b 168 193 1046 = q3 at *
    generalize spanW b 209 214 1072 = q4 at *
    generalize spanW b 215 215 1105 = q5 at *
    generalize spanW b 216 241 1078 = q6 at *
    have K1 := Lib.hid k1
    have K2 := Lib.hid k2
    have K3 := Lib.hid k3
    have K4 := Lib.hid k4
    have K5 := Lib.hid k5
    have K6 := Lib.hid k6
    clear k1 k2 k3 k4 k5 k6
    clear C1 bd he
    go_enter Tryz.func206, Tryz.ntmps206
    go_wp2_with (first
      | (go_at_call 237; with_reducible refine (K1.out _).mono ?_; rintro e w1 ⟨rfl, rfl⟩)
      | (go_at_call 237; with_reducible refine (K2.out _).mono ?_; rintro e w1 ⟨rfl, rfl⟩)
      | (go_at_call 237; with_reducible refine (K3.out _).mono ?_; rintro e w1 ⟨rfl, rfl⟩)
      | (go_at_call 237; with_reducible refine (K4.out _).mono ?_; rintro e w1 ⟨rfl, rfl⟩)
      | (go_at_call 237; with_reducible refine (K5.out _).mono ?_; rintro e w1 ⟨rfl, rfl⟩)
      | (go_at_call 237; with_reducible refine (K6.out _).mono ?_; rintro e w1 ⟨rfl, rfl⟩))
    go_ret
    exact ⟨ret_i (by first | rfl | omega), Below.refl _ _⟩
  · have he : rowS lead b = 0 := by
      unfold rowS
      rw [if_neg c3, if_neg c4, if_neg c5, if_neg c7, if_neg c8, if_neg c9]
    rw [he]
    clear C1 bd he
    go_enter Tryz.func206, Tryz.ntmps206
    go_wp2
    go_ret
    exact ⟨rfl, Below.refl _ _⟩
noncomputable def signW (lead b : Int) : Int :=
  if numberM b < 0 ∨ lead < 129 ∨ 254 < lead then 0
  else if lead < 161 then kthM ((lead - 129) * 178 + numberM b) false
  else if b < 161 then kthM (5696 + (lead - 161) * 84 + numberM b) false
  else if 176 ≤ lead ∧ lead ≤ 200 then kthM ((lead - 176) * 94 + b - 161) true
  else rowW lead b
set_option maxRecDepth 100000 in
set_option maxHeartbeats 4000000 in
theorem sign7_any (lead b : Int) (w : World) (h0 : 0 ≤ lead) (h1 : lead ≤ 255) (h2 : 0 ≤ b) (h3 : b ≤ 255) :
    Calls Tryz.prog 165 #[.int .i64 lead, .int .i64 b] w fun e w' => e = .returned (.int .i32 (signW lead b)) ∧ Below w.heap.size w w' := by
  have k0 := fun w => second7_any b w (by omega) (by omega)
  have hm : signW lead b = if numberM b < 0 ∨ lead < 129 ∨ 254 < lead then 0
    else if lead < 161 then kthM ((lead - 129) * 178 + numberM b) false
    else if b < 161 then kthM (5696 + (lead - 161) * 84 + numberM b) false
    else if 176 ≤ lead ∧ lead ≤ 200 then kthM ((lead - 176) * 94 + b - 161) true else rowW lead b := rfl
  have hb4 : ¬ numberM b < 0 → b ≤ 254 := by unfold numberM; omega
  obtain ⟨n0, n1⟩ := numberM_bd b
  generalize numberM b = t at *
  have K0 := Lib.hid k0
  clear k0
  by_cases c1 : t < 0 ∨ lead < 129 ∨ 254 < lead
  · rw [if_pos c1] at hm
    rw [hm]
    clear hm
    rcases c1 with c | c | c
    · go_enter Tryz.func165, Tryz.ntmps165
      go_wp2_with (go_at_call 204; refine (K0.out _).mono ?_; rintro e w1 ⟨rfl, rfl⟩)
      go_ret
      exact ⟨rfl, Below.refl _ _⟩
    · by_cases ct : t < 0
      all_goals
        go_enter Tryz.func165, Tryz.ntmps165
        go_wp2_with (go_at_call 204; refine (K0.out _).mono ?_; rintro e w1 ⟨rfl, rfl⟩)
        go_ret
        exact ⟨rfl, Below.refl _ _⟩
    · by_cases ct : t < 0
      all_goals
        go_enter Tryz.func165, Tryz.ntmps165
        go_wp2_with (go_at_call 204; refine (K0.out _).mono ?_; rintro e w1 ⟨rfl, rfl⟩)
        go_ret
        exact ⟨rfl, Below.refl _ _⟩
  rw [if_neg c1] at hm
  have t0 : 0 ≤ t := by omega
  have l0 : 129 ≤ lead := by omega
  have l1 : lead ≤ 254 := by omega
  have hb := hb4 (by omega)
  clear c1 hb4 n0
  by_cases c2 : lead < 161
  · rw [if_pos c2] at hm
    rw [hm]
    have k1 := fun w => kth_any ((lead - 129) * 178 + t) false w (by omega) (by omega)
    generalize kthM ((lead - 129) * 178 + t) false = p at *
    have K1 := Lib.hid k1
    clear k1
    clear hm
    go_enter Tryz.func165, Tryz.ntmps165
    go_wp2_with (first
      | (go_at_call 204; refine (K0.out _).mono ?_; rintro e w1 ⟨rfl, rfl⟩)
      | (go_at_call 205; refine (K1.out _).mono ?_; rintro e w1 ⟨rfl, rfl⟩))
    go_ret
    exact ⟨rfl, Below.refl _ _⟩
  rw [if_neg c2] at hm
  by_cases c3 : b < 161
  · rw [if_pos c3] at hm
    rw [hm]
    have k1 := fun w => kth_any (5696 + (lead - 161) * 84 + t) false w (by omega) (by omega)
    generalize kthM (5696 + (lead - 161) * 84 + t) false = p at *
    have K1 := Lib.hid k1
    clear k1
    clear hm
    go_enter Tryz.func165, Tryz.ntmps165
    go_wp2_with (first
      | (go_at_call 204; refine (K0.out _).mono ?_; rintro e w1 ⟨rfl, rfl⟩)
      | (go_at_call 205; refine (K1.out _).mono ?_; rintro e w1 ⟨rfl, rfl⟩))
    go_ret
    exact ⟨rfl, Below.refl _ _⟩
  rw [if_neg c3] at hm
  by_cases c4 : 176 ≤ lead ∧ lead ≤ 200
  · rw [if_pos c4] at hm
    rw [hm]
    obtain ⟨c4, c5⟩ := c4
    have k1 := fun w => kth_any ((lead - 176) * 94 + b - 161) true w (by omega) (by omega)
    generalize kthM ((lead - 176) * 94 + b - 161) true = p at *
    have K1 := Lib.hid k1
    clear k1
    clear hm
    go_enter Tryz.func165, Tryz.ntmps165
    go_wp2_with (first
      | (go_at_call 204; refine (K0.out _).mono ?_; rintro e w1 ⟨rfl, rfl⟩)
      | (go_at_call 205; refine (K1.out _).mono ?_; rintro e w1 ⟨rfl, rfl⟩))
    go_ret
    exact ⟨rfl, Below.refl _ _⟩
  rw [if_neg c4] at hm
  rw [hm]
  have k1 := fun w => row7_any lead b w (by omega) (by omega) (by omega) (by omega)
  generalize rowW lead b = p at *
  have K1 := Lib.hid k1
  clear k1
  clear hm
  by_cases c5 : lead < 176
  · go_enter Tryz.func165, Tryz.ntmps165
    go_wp2_with (first
      | (go_at_call 204; refine (K0.out _).mono ?_; rintro e w1 ⟨rfl, rfl⟩)
      | (go_at_call 206; refine (K1.out _).mono ?_; rintro e w1 ⟨rfl, hb1⟩))
    go_ret
    exact ⟨rfl, hb1⟩
  · have c6 : 200 < lead := by omega
    go_enter Tryz.func165, Tryz.ntmps165
    go_wp2_with (first
      | (go_at_call 204; refine (K0.out _).mono ?_; rintro e w1 ⟨rfl, rfl⟩)
      | (go_at_call 206; refine (K1.out _).mono ?_; rintro e w1 ⟨rfl, hb1⟩))
    go_ret
    exact ⟨rfl, hb1⟩
end Go.Proofs.YtogknbpmgflpgaaGreatDoor
/- Plain: the rows that are told sign by sign (layers 7, 8) are those of the program. -/
namespace Go.Proofs.YtogknbpmgflpgaaGreatDoor
open Go.RowKit
set_option linter.unusedVariables false
set_option linter.unusedSimpArgs false

/-- the signs of a list, four digits and a blank each. -/
def hexPtsF : Nat → List UInt8 → List Int
  | 0, _ => []
  | f + 1, l => hexAt l 0 4 :: hexPtsF f (l.drop 5)
def hexPts (l : List UInt8) : List Int := hexPtsF (l.length / 5) l
theorem hexAt_drop (l : List UInt8) (k : Nat) : ∀ j, hexAt (l.drop 5) k j = hexAt l (k + 1) j := by
  intro j
  induction j with
  | zero => rfl
  | succ j ih =>
    have e : (l.drop 5).getD (k * 5 + j) 0 = l.getD ((k + 1) * 5 + j) 0 := by
      rw [List.getD_eq_getElem?_getD, List.getD_eq_getElem?_getD, List.getElem?_drop, show 5 + (k * 5 + j) = (k + 1) * 5 + j from by omega]
    rw [hexAt, hexAt, ih, e]
theorem hexPtsF_at : ∀ (f k : Nat) (l : List UInt8), k < f → (hexPtsF f l)[k]? = some (hexAt l k 4) := by
  intro f
  induction f with
  | zero => intro k l h; omega
  | succ f ih =>
    intro k l h
    rw [hexPtsF]
    cases k with
    | zero => rfl
    | succ k => rw [List.getElem?_cons_succ, ih k _ (by omega), hexAt_drop]
theorem hexPtsF_len : ∀ (f : Nat) (l : List UInt8), (hexPtsF f l).length = f := by
  intro f
  induction f with
  | zero => intro l; rfl
  | succ f ih => intro l; rw [hexPtsF, List.length_cons, ih]
def optP : Option Int → Int × Bool
  | some p => (p, true)
  | none => (0, false)
def sound (p : Int) : Bool := scalar p && decide (p ≠ 0)
theorem optP_at (l : List Int) (h : l.all sound = true) (k : Nat) : optP l[k]? = optZ (l.getD k 0) := by
  rw [List.getD_eq_getElem?_getD]
  cases hk : l[k]? with
  | none => rfl
  | some p =>
    have := List.all_eq_true.1 h p (List.mem_of_getElem? hk)
    unfold sound at this
    rw [Bool.and_eq_true, decide_eq_true_eq] at this
    exact (optZ_some p this.2).symm
theorem atM_pts (l : List UInt8) (k : Nat) : atM l (k : Int) = optP (hexPts l)[k]? := by
  unfold atM hexPts
  by_cases h : k < l.length / 5
  · rw [hexPtsF_at _ _ _ h, if_neg (by omega), Int.toNat_natCast]
    simp only [optP]
    rw [decide_eq_false (by omega)]
    rfl
  · rw [List.getElem?_eq_none (by rw [hexPtsF_len]; omega), if_pos (.inr (by omega)), decide_eq_true (by exact .inr (by omega))]
    rfl
theorem atM_neg (l : List UInt8) (k : Int) (h : k < 0) : atM l k = (0, false) := by
  unfold atM
  rw [if_pos (.inl h), decide_eq_true (.inl h)]
  rfl
set_option maxRecDepth 100000 in
theorem row_a1 : hexPts (bl (wRow 4)) = pts (bl a1T) ∧ (hexPts (bl (wRow 4))).all sound = true := by decide +kernel
set_option maxRecDepth 100000 in
theorem row_a2 : hexPts (bl (wRow 6)) = pts (bl a2T) ∧ (hexPts (bl (wRow 6))).all sound = true := by decide +kernel
set_option maxRecDepth 100000 in
theorem row_a6 : hexPts (bl (wRow 8)) = pts (bl a6T) ∧ (hexPts (bl (wRow 8))).all sound = true := by decide +kernel
theorem getD_scal (l : List Int) (h : l.all sound = true) (k : Nat) : l.getD k 0 = 0 ∨ Scal (l.getD k 0) := by
  rw [List.getD_eq_getElem?_getD]
  cases hk : l[k]? with
  | none => exact .inl rfl
  | some p =>
    have := List.all_eq_true.1 h p (List.mem_of_getElem? hk)
    unfold sound at this
    rw [Bool.and_eq_true] at this
    exact .inr (scal_of this.1)
/-- a row that is told by spans: its signs are those of the program. -/
def spanOk (lead b : Int) : Bool := decide (spanSign (lead * 256 + b) (wSpans.find? (inSpan (lead * 256 + b))) = optZ (rowS lead b)) && (decide (rowS lead b = 0) || scalar (rowS lead b))
theorem spans_ok : (List.range 12).all (fun (l : Nat) => decide (l = 0 ∨ l = 1 ∨ l = 5) || (List.range 94).all fun (s : Nat) => spanOk (161 + (l : Int)) (161 + (s : Int))) = true := by decide +kernel
theorem other_not (code : Int) (lead b : Int) (hc : code = lead * 256 + b) (hb0 : 161 ≤ b) (hb1 : b ≤ 254) (h1 : lead ≠ 161) (h2 : lead ≠ 162) (h6 : lead ≠ 166) :
    otherM code = spanSign code (wSpans.find? (inSpan code)) := by
  have e1 : code % 256 = b := by omega
  have e2 : code / 256 = lead := by omega
  unfold otherM
  rw [e1, e2, if_neg (by omega)]
  have : wRowL lead = ⟨#[]⟩ := by unfold wRowL; rw [if_neg h1, if_neg h2, if_neg h6]
  rw [this, if_neg (by simp [bl])]
theorem other_in (code : Int) (lead b : Int) (S : ByteArray) (hc : code = lead * 256 + b) (hb0 : 161 ≤ b) (hb1 : b ≤ 254) (hS : wRowL lead = S) (hn : 0 < S.size) :
    otherM code = optP (hexPts (bl S))[(b - 161).toNat]? := by
  have e1 : code % 256 = b := by omega
  have e2 : code / 256 = lead := by omega
  unfold otherM
  rw [e1, e2, if_neg (by omega), hS, if_pos, ← atM_pts]
  · congr 1; omega
  · intro h
    have := bl_length S
    rw [h] at this
    simp at this
    omega
theorem spans_end : ∀ s ∈ wSpans, s.1 + s.2.2 ≤ 44274 := by decide
theorem rowW_eq (lead b : Int) (h0 : 161 ≤ lead) (hb0 : 161 ≤ b) (hb1 : b ≤ 254) : otherM (lead * 256 + b) = optZ (rowW lead b) ∧ (rowW lead b = 0 ∨ Scal (rowW lead b)) := by
  obtain ⟨s1, s2, s6⟩ := wRow_size
  by_cases h1 : lead = 161
  · have e := other_in _ lead b (wRow 4) rfl hb0 hb1 (by unfold wRowL; rw [if_pos h1]) (by omega)
    have hs : (pts (bl a1T)).all sound = true := by rw [← row_a1.1]; exact row_a1.2
    have e2 : rowW lead b = (pts (bl a1T)).getD (b - 161).toNat 0 := by unfold rowW; rw [if_pos h1]
    rw [e, row_a1.1, e2]
    exact ⟨optP_at _ hs _, getD_scal _ hs _⟩
  by_cases h2 : lead = 162
  · have e := other_in _ lead b (wRow 6) rfl hb0 hb1 (by unfold wRowL; rw [if_neg h1, if_pos h2]) (by omega)
    have hl : (hexPts (bl (wRow 6))).length = 71 := by unfold hexPts; rw [hexPtsF_len, bl_length, s2]
    have e2 : rowW lead b = (pts (bl a2T)).getD (b - 161).toNat 0 := by
      unfold rowW
      rw [if_neg h1, if_pos h2]
      split
      · rfl
      · rw [← row_a2.1, List.getD_eq_getElem?_getD, List.getElem?_eq_none (by omega)]; rfl
    have hs : (pts (bl a2T)).all sound = true := by rw [← row_a2.1]; exact row_a2.2
    rw [e, row_a2.1, e2]
    exact ⟨optP_at _ hs _, getD_scal _ hs _⟩
  by_cases h6 : lead = 166
  · have e := other_in _ lead b (wRow 8) rfl hb0 hb1 (by unfold wRowL; rw [if_neg h1, if_neg h2, if_pos h6]) (by omega)
    have hl : (hexPts (bl (wRow 8))).length = 68 := by unfold hexPts; rw [hexPtsF_len, bl_length, s6]
    have e2 : rowW lead b = (pts (bl a6T)).getD (b - 161).toNat 0 := by
      unfold rowW
      rw [if_neg h1, if_neg h2, if_pos h6]
      split
      · rfl
      · rw [← row_a6.1, List.getD_eq_getElem?_getD, List.getElem?_eq_none (by omega)]; rfl
    have hs : (pts (bl a6T)).all sound = true := by rw [← row_a6.1]; exact row_a6.2
    rw [e, row_a6.1, e2]
    exact ⟨optP_at _ hs _, getD_scal _ hs _⟩
  have eS : rowW lead b = rowS lead b := by unfold rowW; rw [if_neg h1, if_neg h2, if_neg h6]
  rw [eS, other_not _ lead b rfl hb0 hb1 h1 h2 h6]
  by_cases hl : lead ≤ 172
  · have h := spans_ok
    rw [List.all_eq_true] at h
    have h3 := h (lead - 161).toNat (List.mem_range.2 (by omega))
    rw [decide_eq_false (by omega), Bool.false_or, List.all_eq_true] at h3
    have h4 := h3 (b - 161).toNat (List.mem_range.2 (by omega))
    rw [show (161 : Int) + ((lead - 161).toNat : Nat) = lead from by omega, show (161 : Int) + ((b - 161).toNat : Nat) = b from by omega] at h4
    unfold spanOk at h4
    rw [Bool.and_eq_true, Bool.or_eq_true, decide_eq_true_eq, decide_eq_true_eq] at h4
    exact ⟨h4.1, h4.2.imp id scal_of⟩
  · have e1 : rowS lead b = 0 := by
      unfold rowS
      repeat' (first | rw [if_neg (by omega)])
    have e2 : wSpans.find? (inSpan (lead * 256 + b)) = none := by
      rw [List.find?_eq_none]
      intro s hs
      have := spans_end s hs
      unfold inSpan
      simp only [decide_eq_true_eq]
      omega
    rw [e1, e2]
    exact ⟨rfl, .inl rfl⟩
theorem kthF_bd (within : Bool) : ∀ (f n k : Nat), n + f ≤ 11172 → kthF within f n k = 0 ∨ Scal (kthF within f n k) := by
  intro f
  induction f with
  | zero => intro n k h; exact .inl rfl
  | succ f ih =>
    intro n k h
    rw [kthF]
    split
    · split
      · unfold Scal; right; omega
      · exact ih _ _ (by omega)
    · exact ih _ _ (by omega)
theorem kthM_bd (k : Int) (within : Bool) : kthM k within = 0 ∨ Scal (kthM k within) := by
  unfold kthM
  split
  · exact .inl rfl
  · exact kthF_bd _ _ _ _ (by omega)
theorem signW_eq (lead b : Int) (h0 : 0 ≤ lead) (h1 : lead ≤ 255) (h2 : 0 ≤ b) (h3 : b ≤ 255) : wSignM lead b = optZ (signW lead b) ∧ (signW lead b = 0 ∨ Scal (signW lead b)) := by
  unfold signW wSignM
  by_cases hl : lead < 129 ∨ 254 < lead
  · rw [if_pos hl, if_pos (show numberM b < 0 ∨ lead < 129 ∨ 254 < lead from .inr hl)]
    exact ⟨rfl, .inl rfl⟩
  rw [if_neg hl]
  by_cases hn : numberM b < 0
  · rw [if_pos (show numberM b < 0 ∨ lead < 129 ∨ 254 < lead from .inl hn)]
    by_cases hr : 161 ≤ lead ∧ 161 ≤ b
    · have hb : b = 255 := by unfold numberM at hn; omega
      rw [if_pos hr]
      unfold rowM
      rw [if_pos (by omega)]
      exact ⟨rfl, .inl rfl⟩
    · rw [if_neg hr, if_pos hn]
      exact ⟨rfl, .inl rfl⟩
  rw [if_neg (show ¬ (numberM b < 0 ∨ lead < 129 ∨ 254 < lead) from by omega)]
  by_cases ha : lead < 161
  · rw [if_neg (show ¬ (161 ≤ lead ∧ 161 ≤ b) from by omega), if_neg hn]
    simp only [if_pos ha]
    exact ⟨kthM_eq _ _, kthM_bd _ _⟩
  by_cases hb : b < 161
  · rw [if_neg (show ¬ (161 ≤ lead ∧ 161 ≤ b) from by omega), if_neg hn]
    simp only [if_neg ha, if_pos hb]
    exact ⟨kthM_eq _ _, kthM_bd _ _⟩
  have hb4 : b ≤ 254 := by unfold numberM at hn; omega
  rw [if_pos (show 161 ≤ lead ∧ 161 ≤ b from by omega)]
  simp only [if_neg ha, if_neg hb]
  have hR := rowW_eq lead b (by omega) (by omega) hb4
  unfold rowM
  rw [if_neg (show ¬ 94 ≤ b - 161 from by omega), show (lead - 161) * 94 + (b - 161) - 1410 = (lead - 176) * 94 + b - 161 from by omega, show (lead - 161 + 161) * 256 + (b - 161 + 161) = lead * 256 + b from by omega]
  by_cases hk : 176 ≤ lead ∧ lead ≤ 200
  · simp only [if_pos hk]
    refine ⟨?_, kthM_bd _ _⟩
    have hc := kthM_eq ((lead - 176) * 94 + b - 161) true
    by_cases hz : kthM ((lead - 176) * 94 + b - 161) true = 0
    · rw [hc, hz, if_neg (by decide), hR.1]
      have e1 : rowW lead b = 0 := by
        unfold rowW rowS
        repeat' (first | rw [if_neg (by omega)])
      rw [e1]
    · rw [optZ_some _ hz] at hc
      rw [hc, if_pos rfl, optZ_some _ hz]
  · simp only [if_neg hk]
    have hc : (chooseM ((lead - 176) * 94 + b - 161) true).2 = false := by
      by_cases h : lead < 176
      · unfold chooseM; rw [if_pos (by omega)]
      · exact choose_out _ (by omega)
    rw [hc, if_neg (by decide)]
    exact hR
end Go.Proofs.YtogknbpmgflpgaaGreatDoor
