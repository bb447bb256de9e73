/- Plain laws: all codes that have a sign, how many they are, and the sum of these signs. -/
import Derived.Test.YthboonolnnjdeaaJLaw
namespace Go.Proofs.Ythboonolnnjdeaa
set_option linter.unusedVariables false

/-- the places (from 32768 on) below k whose code has a sign. -/
def pl (k : Nat) : List Nat := (List.range k).filter fun j : Nat => !decide (signJ (32768 + (j : Int)) = 0)
theorem pl_skip (k : Nat) (h : signJ (32768 + (k : Int)) = 0) : pl (k + 1) = pl k := by
  unfold pl; rw [List.range_succ, List.filter_append]; simp [h]
theorem pl_take (k : Nat) (h : signJ (32768 + (k : Int)) ≠ 0) : pl (k + 1) = pl k ++ [k] := by
  unfold pl; rw [List.range_succ, List.filter_append]; simp [h]
theorem pl_le (k : Nat) : (pl k).length ≤ k := by
  unfold pl; have := List.length_filter_le (fun j : Nat => !decide (signJ (32768 + (j : Int)) = 0)) (List.range k); simpa using this
/-- what comes later stands behind. -/
theorem pl_more (k d : Nat) : ∃ r, pl (k + d) = pl k ++ r := by
  induction d with
  | zero => exact ⟨[], by simp⟩
  | succ d ih =>
    obtain ⟨r, hr⟩ := ih
    by_cases h : signJ (32768 + ((k + d : Nat) : Int)) = 0
    · exact ⟨r, by rw [← Nat.add_assoc, pl_skip _ h, hr]⟩
    · exact ⟨r ++ [k + d], by rw [← Nat.add_assoc, pl_take _ h, hr, List.append_assoc]⟩
theorem pl_at (k n : Nat) (hk : k < n) (h : signJ (32768 + (k : Int)) ≠ 0) : (pl n)[(pl k).length]? = some k := by
  obtain ⟨d, rfl⟩ : ∃ d, n = k + 1 + d := ⟨n - (k + 1), by omega⟩
  obtain ⟨r, hr⟩ := pl_more (k + 1) d
  rw [hr, pl_take k h]
  simp

/-- the sign at a place. -/
def sgAt (j : Nat) : Int := signJ (32768 + (j : Int))
def sumPl (k : Nat) : Int := ((pl k).map sgAt).sum
theorem sum_snoc (f : Nat → Int) (l : List Nat) (k : Nat) : ((l ++ [k]).map f).sum = (l.map f).sum + f k := by simp
theorem sumPl_skip (k : Nat) (h : signJ (32768 + (k : Int)) = 0) : sumPl (k + 1) = sumPl k := by unfold sumPl; rw [pl_skip k h]
theorem sumPl_take (k : Nat) (h : signJ (32768 + (k : Int)) ≠ 0) : sumPl (k + 1) = sumPl k + sgAt k := by
  unfold sumPl; rw [pl_take k h]; exact sum_snoc sgAt _ k
theorem sgAt_eq (k : Nat) : sgAt k = signJ (32768 + (k : Int)) := rfl
theorem signJ_bd (n : Int) (h0 : 0 ≤ n) (h1 : n < 65536) : 0 ≤ signJ n ∧ signJ n < 55204 := by
  by_cases h : signJ n = 0
  · omega
  · have := signJ_has n h0 h1 h; unfold hasJ at this; omega
theorem sumPl_bd (k : Nat) (hk : k ≤ 32768) : 0 ≤ sumPl k ∧ sumPl k ≤ 65536 * k := by
  induction k with
  | zero => simp [sumPl, pl]
  | succ k ih =>
    have := ih (by omega)
    have hb := signJ_bd (32768 + (k : Int)) (by omega) (by omega)
    by_cases h : signJ (32768 + (k : Int)) = 0
    · rw [sumPl_skip k h]; omega
    · rw [sumPl_take k h, sgAt_eq]; omega

/-- numbers that follow one another. -/
def runOf (a : Int) (n : Nat) : List Int := (List.range n).map fun i : Nat => a + (i : Int)
def sumRun (a : Int) (n : Nat) : Int := (runOf a n).sum
theorem sumRun_succ (a : Int) (n : Nat) : sumRun a (n + 1) = sumRun a n + (a + n) := by
  unfold sumRun runOf; rw [List.range_succ]; simp
theorem sumRun_bd (a : Int) (n : Nat) (h0 : 0 ≤ a) (h1 : a + n ≤ 65536) : 0 ≤ sumRun a n ∧ sumRun a n ≤ 65536 * n := by
  induction n with
  | zero => simp [sumRun, runOf]
  | succ n ih => have := ih (by omega); rw [sumRun_succ]; omega

theorem perm_of_same {α : Type} [BEq α] [LawfulBEq α] : ∀ (l m : List α), l.Nodup → m.Nodup → (∀ x, x ∈ l ↔ x ∈ m) → l.Perm m
  | [], m, _, _, h => by
    cases m with
    | nil => exact List.Perm.refl _
    | cons b m => exact absurd ((h b).2 (by simp)) (by simp)
  | a :: l, m, hl, hm, h => by
    have ha : a ∈ m := (h a).1 (by simp)
    refine List.Perm.trans ?_ (List.perm_cons_erase ha).symm
    refine List.Perm.cons a (perm_of_same l (m.erase a) (List.nodup_cons.1 hl).2 (hm.erase a) ?_)
    intro x
    rw [hm.mem_erase_iff]
    constructor
    · intro hx
      refine ⟨?_, (h x).1 (by simp [hx])⟩
      intro e
      subst e
      exact (List.nodup_cons.1 hl).1 hx
    · rintro ⟨hne, hx⟩
      have := (h x).2 hx
      simp only [List.mem_cons] at this
      exact this.resolve_left hne

theorem nodup_map_inj {α β : Type} (f : α → β) : ∀ (l : List α), l.Nodup → (∀ a ∈ l, ∀ b ∈ l, f a = f b → a = b) → (l.map f).Nodup
  | [], _, _ => by simp
  | a :: l, h, hi => by
    rw [List.map_cons, List.nodup_cons]
    refine ⟨?_, nodup_map_inj f l (List.nodup_cons.1 h).2 fun x hx y hy => hi x (by simp [hx]) y (by simp [hy])⟩
    intro hm
    obtain ⟨b, hb, e⟩ := List.mem_map.1 hm
    have := hi b (by simp [hb]) a (by simp) e
    subst this
    exact (List.nodup_cons.1 h).1 hb

theorem mem_pl (k j : Nat) : j ∈ pl k ↔ j < k ∧ sgAt j ≠ 0 := by
  unfold pl sgAt; simp
theorem mem_run (a x : Int) (n : Nat) : x ∈ runOf a n ↔ a ≤ x ∧ x < a + n := by
  unfold runOf
  simp only [List.mem_map, List.mem_range]
  constructor
  · rintro ⟨i, hi, rfl⟩; omega
  · intro h; exact ⟨(x - a).toNat, by omega, by omega⟩
theorem nodup_run (a : Int) (n : Nat) : (runOf a n).Nodup := by
  unfold runOf
  refine nodup_map_inj _ _ List.nodup_range ?_
  intro x _ y _ h; omega

theorem all_perm : ((pl 32768).map sgAt).Perm (runOf 12593 51 ++ runOf 44032 11172) := by
  refine perm_of_same _ _ ?_ ?_ ?_
  · refine nodup_map_inj _ _ (List.nodup_range.filter _) ?_
    intro x hx y hy e
    rw [mem_pl] at hx hy
    have h1 := code_sign (32768 + (x : Int)) (by omega) (by omega) hx.2
    have h2 := code_sign (32768 + (y : Int)) (by omega) (by omega) hy.2
    unfold sgAt at e
    rw [e] at h1
    omega
  · rw [List.nodup_append]
    refine ⟨nodup_run _ _, nodup_run _ _, ?_⟩
    intro x hx y hy e
    rw [mem_run] at hx hy; omega
  · intro x
    rw [List.mem_append, mem_run, mem_run, List.mem_map]
    constructor
    · rintro ⟨j, hj, rfl⟩
      rw [mem_pl] at hj
      have := signJ_has (32768 + (j : Int)) (by omega) (by omega) hj.2
      unfold hasJ at this
      unfold sgAt
      omega
    · intro h
      have hh : hasJ x := by unfold hasJ; omega
      have hr := codeJ_range x hh
      have hs := sign_code x hh
      refine ⟨(codeJ x - 32768).toNat, ?_, ?_⟩
      · rw [mem_pl]
        refine ⟨by omega, ?_⟩
        unfold sgAt
        rw [show (32768 + (((codeJ x - 32768).toNat : Nat) : Int)) = codeJ x from by omega, hs]
        unfold hasJ at hh; omega
      · unfold sgAt
        rw [show (32768 + (((codeJ x - 32768).toNat : Nat) : Int)) = codeJ x from by omega, hs]
theorem all_count : (pl 32768).length = 11223 := by
  have := all_perm.length_eq
  rw [List.length_map, List.length_append] at this
  rw [this]
  simp [runOf]
theorem all_sum : sumPl 32768 = sumRun 12593 51 + sumRun 44032 11172 := by
  unfold sumPl sumRun
  have : ∀ (l m : List Int), l.Perm m → l.sum = m.sum := by
    intro l m h
    induction h with
    | nil => rfl
    | cons x _ ih => simp [ih]
    | swap x y l => simp; omega
    | trans _ _ ih1 ih2 => exact ih1.trans ih2
  rw [this _ _ all_perm, List.sum_append]
/-! The same, said of codes. -/
/-- the codes below n that have a sign. -/
def plZ (n : Int) : List Int := (pl (n - 32768).toNat).map fun j : Nat => 32768 + (j : Int)
theorem plZ_start : plZ 32768 = [] := rfl
theorem toNat_step (n : Int) (h : 32768 ≤ n) : (n + 1 - 32768).toNat = (n - 32768).toNat + 1 := by omega
theorem back (n : Int) (h : 32768 ≤ n) : 32768 + (((n - 32768).toNat : Nat) : Int) = n := by omega
theorem plZ_skip (n : Int) (h : 32768 ≤ n) (hs : signJ n = 0) : plZ (n + 1) = plZ n := by
  unfold plZ; rw [toNat_step n h, pl_skip _ (by rw [back n h]; exact hs)]
theorem plZ_take (n : Int) (h : 32768 ≤ n) (hs : signJ n ≠ 0) : plZ (n + 1) = plZ n ++ [n] := by
  unfold plZ; rw [toNat_step n h, pl_take _ (by rw [back n h]; exact hs), List.map_append]
  rw [show List.map (fun j : Nat => 32768 + (j : Int)) [(n - 32768).toNat] = [32768 + (((n - 32768).toNat : Nat) : Int)] from rfl, back n h]
theorem plZ_le (n : Int) (h : 32768 ≤ n) : ((plZ n).length : Int) ≤ n - 32768 := by
  unfold plZ; rw [List.length_map]; have := pl_le (n - 32768).toNat; omega
theorem plZ_at (n : Int) (h : 32768 ≤ n) (h1 : n < 65536) (hs : signJ n ≠ 0) : (plZ 65536)[(plZ n).length]? = some n := by
  unfold plZ
  rw [List.length_map, List.getElem?_map, pl_at (n - 32768).toNat (65536 - 32768 : Int).toNat (by omega) (by rw [back n h]; exact hs)]
  rw [Option.map_some, back n h]
theorem plZ_count : (plZ 65536).length = 11223 := by unfold plZ; rw [List.length_map]; exact all_count
def sumZ (n : Int) : Int := sumPl (n - 32768).toNat
theorem sumZ_start : sumZ 32768 = 0 := rfl
theorem sumZ_skip (n : Int) (h : 32768 ≤ n) (hs : signJ n = 0) : sumZ (n + 1) = sumZ n := by
  unfold sumZ; rw [toNat_step n h, sumPl_skip _ (by rw [back n h]; exact hs)]
theorem sumZ_take (n : Int) (h : 32768 ≤ n) (hs : signJ n ≠ 0) : sumZ (n + 1) = sumZ n + signJ n := by
  unfold sumZ; rw [toNat_step n h, sumPl_take _ (by rw [back n h]; exact hs), sgAt_eq, back n h]
theorem sumZ_bd (n : Int) (h : 32768 ≤ n) (h1 : n ≤ 65536) : 0 ≤ sumZ n ∧ sumZ n ≤ 65536 * (n - 32768) := by
  unfold sumZ; have := sumPl_bd (n - 32768).toNat (by omega); omega
theorem sumZ_all : sumZ 65536 = sumRun 12593 51 + sumRun 44032 11172 := all_sum
end Go.Proofs.Ythboonolnnjdeaa
