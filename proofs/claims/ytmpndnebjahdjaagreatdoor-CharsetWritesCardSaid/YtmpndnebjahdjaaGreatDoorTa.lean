/- Plain: what is decoded is encoded as it was: the road, and the charsets of one byte, of Johab's two bytes, of units. -/
import Derived.Test.YtmpndnebjahdjaaGreatDoorTm
import Derived.Test.YtmpndnebjahdjaaGreatDoorTj
namespace Go.Proofs.YtmpndnebjahdjaaGreatDoor
open Go.RowKit
set_option linter.unusedVariables false
set_option linter.unusedSimpArgs false

/-- a reader comes through bytes, to a text. -/
inductive Reads (D : Tok) : List UInt8 → List UInt8 → Prop
  | nil : Reads D [] []
  | cons (l t : List UInt8) (k : Nat) (r : List UInt8) : l ≠ [] → D l = some (t, k) → Reads D (l.drop k) r → Reads D l (t ++ r)
theorem reads_of {D : Tok} (N : ∀ l t k, D l = some (t, k) → 1 ≤ k) : ∀ (f : Nat) (l : List UInt8) (n : Nat) (acc u : List UInt8), l.length ≤ f → runT D f l n acc = (u, none) → ∃ t, u = acc ++ t ∧ Reads D l t := by
  intro f
  induction f with
  | zero =>
    intro l n acc u hf h
    obtain rfl : l = [] := List.eq_nil_of_length_eq_zero (by omega)
    simp [runT] at h
    exact ⟨[], by simp [h], .nil⟩
  | succ f ih =>
    intro l n acc u hf h
    rw [runT] at h
    by_cases hl : l = []
    · rw [if_pos hl] at h
      subst hl
      simp at h
      exact ⟨[], by simp [h], .nil⟩
    · rw [if_neg hl] at h
      cases hd : D l with
      | none => rw [hd] at h; simp at h
      | some p =>
        obtain ⟨t, k⟩ := p
        rw [hd] at h
        simp only at h
        have hk := N l t k hd
        have hlp : 0 < l.length := List.length_pos_iff.2 hl
        obtain ⟨r, hu, hr⟩ := ih (l.drop k) _ _ _ (by rw [List.length_drop]; omega) h
        exact ⟨t ++ r, by rw [hu, List.append_assoc], .cons l t k r hl hd hr⟩
theorem reads_dec {D : Tok} (N : ∀ l t k, D l = some (t, k) → 1 ≤ k) (l t : List UInt8) (h : decT D l = (t, none)) : Reads D l t := by
  obtain ⟨r, hu, hr⟩ := reads_of N l.length l 0 [] t (Nat.le_refl _) h
  rw [hu]; exact hr
theorem reads_run {D : Tok} (N : ∀ l t k, D l = some (t, k) → 1 ≤ k) (l t : List UInt8) (h : Reads D l t) : ∀ (f n : Nat) (acc : List UInt8), l.length ≤ f → runT D f l n acc = (acc ++ t, none) := by
  induction h with
  | nil => intro f n acc _; cases f <;> simp [runT]
  | cons l t k r hl hd hr ih =>
    intro f n acc hf
    have hlp : 0 < l.length := List.length_pos_iff.2 hl
    obtain ⟨f, rfl⟩ : ∃ g, f = g + 1 := ⟨f - 1, by omega⟩
    have hk := N l t k hd
    rw [runT, if_neg hl, hd]
    simp only
    rw [ih f _ _ (by rw [List.length_drop]; omega), List.append_assoc]
theorem dec_reads {D : Tok} (N : ∀ l t k, D l = some (t, k) → 1 ≤ k) (l t : List UInt8) (h : Reads D l t) : decT D l = (t, none) := by
  have := reads_run N l t h l.length 0 [] (Nat.le_refl _)
  unfold decT
  rw [this]; rfl
/-- what one reader reads, another reads back. -/
theorem reads_back {D E : Tok} (H : ∀ l t k r, l ≠ [] → D l = some (t, k) → Reads D (l.drop k) r → t ≠ [] ∧ E (t ++ r) = some (l.take k, t.length)) (l t : List UInt8) (h : Reads D l t) : Reads E t l := by
  induction h with
  | nil => exact .nil
  | cons l t k r hl hd hr ih =>
    obtain ⟨h1, h2⟩ := H l t k r hl hd hr
    have e : Reads E (t ++ r) (l.take k ++ l.drop k) := .cons _ _ t.length _ (by intro h; exact h1 (List.append_eq_nil_iff.1 h).1) h2 (by rw [List.drop_left]; exact ih)
    rw [List.take_append_drop] at e
    exact e
theorem pos_S (sg : UInt8 → Option (List UInt8)) (l t : List UInt8) (k : Nat) (h : tokS sg l = some (t, k)) : 1 ≤ k := (near_S sg).pos l t k h |>.1
theorem pos_E (ls : Int → Option Int) (l t : List UInt8) (k : Nat) (h : tokE ls l = some (t, k)) : 1 ≤ k := by
  unfold tokE at h
  rw [Option.map_eq_some_iff] at h
  obtain ⟨c, _, h⟩ := h
  have := (Prod.mk.inj h).2
  have := dec_pos l
  omega
theorem pos_B (B : Int → List UInt8) (l t : List UInt8) (k : Nat) (h : tokB B l = some (t, k)) : 1 ≤ k := by
  have hp := dec_pos l
  unfold tokB at h
  split at h
  · have := (Prod.mk.inj (Option.some.inj h)).2; omega
  · split at h
    · cases h
    · have := (Prod.mk.inj (Option.some.inj h)).2; omega
theorem pos_W (big : Bool) (l t : List UInt8) (k : Nat) (h : tokW big l = some (t, k)) : 1 ≤ k := by
  unfold tokW at h
  split at h
  · cases h
  · have := (Prod.mk.inj (Option.some.inj h)).2; omega
theorem pos_WE (big : Bool) (l t : List UInt8) (k : Nat) (h : tokWE big l = some (t, k)) : 1 ≤ k := by
  have hp := dec_pos l
  have := (Prod.mk.inj (Option.some.inj h)).2
  omega
/-- what stands ahead of a text. -/
theorem dec_head (p : Int) (hp : Scal p) (r : List UInt8) : (dec (encR p ++ r)).1 = p.toNat ∧ (dec (encR p ++ r)).2 = (encR p).length ∧ ((dec (encR p ++ r)).1 : Int) = p := by
  rw [dec_encR p hp r]
  exact ⟨rfl, rfl, by have := hp.1; simp only; omega⟩
theorem encR_nn (p : Int) : encR p ≠ [] := by intro h; have := (encR_len p).1; rw [h] at this; simp at this
/-- two readers of two bytes a sign: the way back. -/
theorem back_two (c : Int) (B : Int → List UInt8) (HB : ∀ (x y : UInt8), signsM c x.toNat y.toNat ≠ [] → ¬ x < 128 → ∃ p, signsM c x.toNat y.toNat = encR p ∧ Scal p ∧ 128 ≤ p ∧ B p = [x, y]) (l t : List UInt8) (h : decT (tok2 c) l = (t, none)) : decT (tokB B) t = (l, none) := by
  have N : ∀ l t k, tok2 c l = some (t, k) → 1 ≤ k := fun l t k h => (near_D _).pos l t k h |>.1
  have hr := reads_dec N l t h
  refine dec_reads (pos_B B) t l (reads_back (fun l t k r hl hd hrr => ?_) l t hr)
  unfold tok2 at hd
  have low : ∀ (b : UInt8) (r : List UInt8), b < 128 → tokB B ([b] ++ r) = some ([b], 1) := by
    intro b r hb
    have hb' : b.toNat < 128 := hb
    unfold tokB
    rw [show [b] ++ r = b :: r from rfl, dec_plain b r hb', if_pos hb']
    simp
  match l, hd with
  | [b], hd =>
    simp only [tokD] at hd
    split at hd
    · next hb => obtain ⟨rfl, rfl⟩ := Prod.mk.inj (Option.some.inj hd); exact ⟨by simp, low b r hb⟩
    · cases hd
  | x :: y :: q, hd =>
    simp only [tokD] at hd
    split at hd
    · next hb => obtain ⟨rfl, rfl⟩ := Prod.mk.inj (Option.some.inj hd); exact ⟨by simp, low x r hb⟩
    · next hb =>
      split at hd
      · cases hd
      · next hs =>
        obtain ⟨rfl, rfl⟩ := Prod.mk.inj (Option.some.inj hd)
        obtain ⟨p, hp, hsc, h128, hBp⟩ := HB x y hs hb
        refine ⟨hs, ?_⟩
        rw [hp]
        obtain ⟨d1, d2, d3⟩ := dec_head p hsc r
        unfold tokB
        rw [if_neg (by omega), d3, hBp, if_neg (by simp), d2]
        rfl
/-- the two bytes of a sign in Johab. -/
def jBytesM (p : Int) : List UInt8 := if (12593 ≤ p ∧ p < 12644) ∨ (44032 ≤ p ∧ p < 55204) then bigL (codeJ p) 2 else []
theorem johab_signs (l s : Int) : signsM 5 l s = if signJB (l * 256 + s) = true then (textM [signJ (l * 256 + s)]).1 else [] := rfl
theorem back_johab (l t : List UInt8) (h : decT (tokC 5) l = (t, none)) : decT (tokB jBytesM) t = (l, none) := by
  rw [tokC_two 5 (by omega) (by omega)] at h
  refine back_two 5 jBytesM (fun x y hs hx => ?_) l t h
  have hxl := x.toNat_lt
  have hyl := y.toNat_lt
  have hm := johab_signs x.toNat y.toNat
  by_cases hz : signJ ((x.toNat : Int) * 256 + y.toNat) = 0
  · unfold signJB at hm
    rw [hz] at hm
    exact absurd hm hs
  · have hj := signJ_has _ (by omega) (by omega) hz
    have hsc := hasJ_scal _ hj
    unfold signJB at hm
    rw [decide_eq_false hz, Bool.not_false, if_pos rfl, textM_one _ hsc] at hm
    simp only at hm
    refine ⟨signJ ((x.toNat : Int) * 256 + y.toNat), hm, hsc, ?_, ?_⟩
    · have := hj; unfold hasJ at this; omega
    · unfold jBytesM
      have hj2 := hj
      unfold hasJ at hj2
      rw [if_pos hj2, code_sign _ (by omega) (by omega) hz, bigL2]
theorem unitB_unitI (x y : UInt8) (big : Bool) : unitB big (unitI x y big) = [x, y] := by
  have hx := x.toNat_lt
  have hy := y.toNat_lt
  cases big with
  | true =>
    have e1 : ((x.toNat : Int) * 256 + y.toNat).toNat / 256 = x.toNat := by omega
    have e2 : ((x.toNat : Int) * 256 + y.toNat).toNat % 256 = y.toNat := by omega
    simp [unitB, unitI, e1, e2]
  | false =>
    have e1 : ((y.toNat : Int) * 256 + x.toNat).toNat / 256 = y.toNat := by omega
    have e2 : ((y.toNat : Int) * 256 + x.toNat).toNat % 256 = x.toNat := by omega
    simp [unitB, unitI, e1, e2]
theorem back_wide (big : Bool) (l t : List UInt8) (h : decT (tokW big) l = (t, none)) : decT (tokWE big) t = (l, none) := by
  have hr := reads_dec (pos_W big) l t h
  refine dec_reads (pos_WE big) t l (reads_back (fun l t k r hl hd hrr => ?_) l t hr)
  unfold tokW at hd
  split at hd
  · cases hd
  · next hz =>
    obtain ⟨rfl, rfl⟩ := Prod.mk.inj (Option.some.inj hd)
    refine ⟨encR_nn _, ?_⟩
    have hsc : Scal (wsign big l).1 := by rw [wsign_units] at hz ⊢; exact wsignU_scal _ (unitsL_bd big l) hz
    obtain ⟨d1, d2, d3⟩ := dec_head _ hsc r
    unfold tokWE
    rw [d2, d3]
    congr 2
    match l, hl, hz with
    | [x], _, hz => exact absurd rfl hz
    | x :: y :: q, _, hz =>
      have b1 := unitI_bd x y big
      have u1 := unitB_unitI x y big
      rw [wsign.eq_def] at hz ⊢
      simp only at hz ⊢
      by_cases ha : unitI x y big < 55296 ∨ 57344 ≤ unitI x y big
      · rw [if_pos ha]
        unfold bytesP unitsP
        simp only
        rw [if_pos (by omega)]
        simp [u1]
      · rw [if_neg ha] at hz ⊢
        match q, hz with
        | [], hz => exact absurd rfl hz
        | [z], hz => exact absurd rfl hz
        | z :: u :: s, hz =>
          simp only at hz ⊢
          have b2 := unitI_bd z u big
          have u2 := unitB_unitI z u big
          by_cases hb : 56320 ≤ unitI x y big
          · rw [if_pos hb] at hz; exact absurd rfl hz
          · rw [if_neg hb] at hz ⊢
            by_cases hc : unitI z u big < 56320 ∨ 57344 ≤ unitI z u big
            · rw [if_pos hc] at hz; exact absurd rfl hz
            · rw [if_neg hc]
              unfold bytesP unitsP
              simp only
              rw [if_neg (by omega), show 55296 + (65536 + (unitI x y big - 55296) * 1024 + (unitI z u big - 56320) - 65536) / 1024 = unitI x y big from by omega, show 56320 + (65536 + (unitI x y big - 55296) * 1024 + (unitI z u big - 56320) - 65536) % 1024 = unitI z u big from by omega]
              simp [u1, u2]
end Go.Proofs.YtmpndnebjahdjaaGreatDoor
/- Plain: what is decoded is encoded as it was: the charsets of one byte. -/
namespace Go.Proofs.YtmpndnebjahdjaaGreatDoor
open Go.RowKit
set_option linter.unusedVariables false
set_option linter.unusedSimpArgs false

set_option maxRecDepth 100000 in
theorem least_all : (List.range 4).all (fun (c : Nat) => (fun KG L => (List.range 256).all fun (n : Nat) => decide (lsK L (KG.2.getD n 0) = some (n : Int))) (kgM (setS (c : Int))) (pairsM (setS (c : Int)))) = true := by decide +kernel
theorem back_lo (c : Int) (h0 : 0 ≤ c) (h3 : c ≤ 3) (l t : List UInt8) (h : decT (tokC c) l = (t, none)) : decT (tokE (lsK (pairsM (setS c)))) t = (l, none) := by
  have hr := reads_dec (fun l t k h => (near_C c (by omega)).pos l t k h |>.1) l t h
  refine dec_reads (pos_E _) t l (reads_back (fun l t k r hl hd hrr => ?_) l t hr)
  rw [tokC_lo c h3] at hd
  cases l with
  | nil => exact absurd rfl hl
  | cons b l =>
    obtain ⟨e1, e2⟩ := tok_good _ (good_at c h0 h3) b l
    rw [e1] at hd
    obtain ⟨rfl, rfl⟩ := Prod.mk.inj (Option.some.inj hd)
    refine ⟨encR_nn _, ?_⟩
    obtain ⟨d1, d2, d3⟩ := dec_head _ e2 r
    unfold tokE
    rw [d3, d2]
    obtain ⟨n, rfl⟩ := Int.eq_ofNat_of_zero_le h0
    have hall := least_all
    rw [List.all_eq_true] at hall
    have h1 := hall n (List.mem_range.2 (by omega))
    simp only at h1
    rw [List.all_eq_true] at h1
    have h2 := h1 b.toNat (List.mem_range.2 (by have := b.toNat_lt; omega))
    rw [decide_eq_true_eq] at h2
    unfold bySg
    rw [h2]
    simp
end Go.Proofs.YtmpndnebjahdjaaGreatDoor
