/- Plain: a text that is decoded is made of signs. -/
import Derived.Test.YtbijjomknbnmfaaGreatDoorRm
namespace Go.Proofs.YtbijjomknbnmfaaGreatDoor
open Go.RowKit
set_option linter.unusedVariables false
set_option linter.unusedSimpArgs false

/-- bytes that are signs. -/
def IsL (t : List UInt8) : Prop := ∃ ps : List Int, t = encL ps ∧ ∀ p ∈ ps, Scal p
theorem IsL.nil : IsL [] := ⟨[], rfl, fun p h => by cases h⟩
theorem IsL.one (p : Int) (h : Scal p) : IsL (encR p) := ⟨[p], by simp [encL], fun q hq => by simp at hq; rw [hq]; exact h⟩
theorem IsL.app {a b : List UInt8} (h : IsL a) (k : IsL b) : IsL (a ++ b) := by
  obtain ⟨p, rfl, hp⟩ := h
  obtain ⟨q, rfl, hq⟩ := k
  exact ⟨p ++ q, (encL_append p q).symm, fun x hx => (List.mem_append.1 hx).elim (hp x) (hq x)⟩
theorem IsL.scan {t : List UInt8} (h : IsL t) : (scanL t).2 = none := by
  obtain ⟨p, rfl, hp⟩ := h
  rw [scanL_encL p hp]
theorem IsL.low (b : UInt8) (h : b < 128) : IsL [b] := by
  have h' : b.toNat < 128 := h
  have e : encR (b.toNat : Int) = [b] := by
    unfold encR Lib.encodeRune
    rw [Lib.encodeRuneZ_one (by omega) (by omega)]
    simp
  rw [← e]
  exact IsL.one _ (by unfold Scal; omega)
def GoodT (tok : Tok) : Prop := ∀ l t k, tok l = some (t, k) → IsL t
theorem runT_isl {tok : Tok} (G : GoodT tok) : ∀ (f : Nat) (l : List UInt8) (n : Nat) (acc u : List UInt8), IsL acc → runT tok f l n acc = (u, none) → IsL u := by
  intro f
  induction f with
  | zero => intro l n acc u h e; simp [runT] at e; rw [← e]; exact h
  | succ f ih =>
    intro l n acc u h e
    rw [runT] at e
    split at e
    · simp at e; rw [← e]; exact h
    · split at e
      · simp at e
      · next t k ht => exact ih _ _ _ _ (h.app (G _ _ _ ht)) e
theorem isl_text (l : List Int) : IsL (textM l).1 := by
  unfold textM
  split
  · next h => exact ⟨l, rfl, fun p hp => scal_of (List.all_eq_true.1 h p hp)⟩
  · exact IsL.nil
theorem isl_twos : ∀ (l : List (Int × Int × Int)) (a b : Int), IsL (twosL l a b).1 := by
  intro l
  induction l with
  | nil => intro a b; exact IsL.nil
  | cons s l ih =>
    intro a b
    rw [twosL]
    split
    · exact isl_text _
    · exact ih a b
theorem isl_signs (c l s : Int) : IsL (signsM c l s) := by
  unfold signsM bSignsM
  split
  · split
    · exact isl_text _
    · exact IsL.nil
  · split
    · split
      · exact isl_text _
      · exact IsL.nil
    · split
      · exact isl_text _
      · exact isl_twos _ _ _
theorem good_two (c : Int) : GoodT (tok2 c) := by
  intro l t k h
  unfold tok2 at h
  match l, h with
  | [b], h =>
    simp only [tokD] at h
    split at h
    · next hb => simp at h; rw [← h.1]; exact IsL.low b hb
    · cases h
  | b :: c' :: r, h =>
    simp only [tokD] at h
    split at h
    · next hb => simp at h; rw [← h.1]; exact IsL.low b hb
    · split at h
      · cases h
      · simp at h; rw [← h.1]; exact isl_signs _ _ _
theorem wsignU_scal (U : List Int) (hU : ∀ p ∈ U, 0 ≤ p ∧ p < 65536) (h : (wsignU U).2 ≠ 0) : Scal (wsignU U).1 := by
  match U, hU, h with
  | [], _, h => exact absurd rfl h
  | [f], hU, h =>
    have hf := hU f (by simp)
    unfold wsignU at h ⊢
    split
    · unfold Scal; simp only; omega
    · next hh => rw [if_neg hh] at h; exact absurd rfl h
  | f :: g :: r, hU, h =>
    have hf := hU f (by simp)
    have hg := hU g (by simp)
    unfold wsignU at h ⊢
    split
    · unfold Scal; simp only; omega
    · next h1 =>
      rw [if_neg h1] at h
      simp only at h ⊢
      split
      · next h2 => rw [if_pos h2] at h; exact absurd rfl h
      · next h2 =>
        rw [if_neg h2] at h
        split
        · next h3 => rw [if_pos h3] at h; exact absurd rfl h
        · unfold Scal; simp only; omega
theorem good_W (big : Bool) : GoodT (tokW big) := by
  intro l t k h
  unfold tokW at h
  split at h
  · cases h
  · next hz =>
    simp at h
    rw [← h.1]
    refine IsL.one _ ?_
    rw [wsign_units] at hz ⊢
    exact wsignU_scal _ (unitsL_bd big l) hz
theorem IsL.pts {t : List UInt8} (h : IsL t) : ∀ p ∈ pts t, Scal p := by
  obtain ⟨q, rfl, hq⟩ := h
  rw [pts_encL' q hq]
  exact hq
theorem isl_C (c : Int) (h0 : 0 ≤ c) (h7 : c ≠ 7) (l t : List UInt8) (hd : decT (tokC c) l = (t, none)) : IsL t := by
  by_cases h3 : c ≤ 3
  · rw [dec_good c h0 h3] at hd
    have e := congrArg Prod.fst hd
    simp only at e
    rw [← e]
    refine ⟨_, rfl, fun p hp => ?_⟩
    obtain ⟨b, hb, rfl⟩ := List.mem_map.1 hp
    exact (tok_good _ (good_at c h0 h3) b []).2
  by_cases h6 : c ≤ 6
  · rw [tokC_two c (by omega) h6] at hd
    exact runT_isl (good_two c) _ _ _ _ _ IsL.nil hd
  · rw [tokC_w c (by omega)] at hd
    exact runT_isl (good_W _) _ _ _ _ _ IsL.nil hd
/-- what is decoded, in any charset, is made of signs. -/
theorem valid_C (c : Int) (h0 : 0 ≤ c) (l t : List UInt8) (hd : decT (tokC c) l = (t, none)) : (scanL t).2 = none := by
  by_cases h7 : c = 7
  · subst h7
    rw [tokC_u, decT_U] at hd
    unfold decU at hd
    cases hs : (scanL l).2 with
    | none => rw [hs] at hd; simp at hd; rw [← hd]; exact hs
    | some k => rw [hs] at hd; simp at hd
  · exact (isl_C c h0 h7 l t hd).scan
end Go.Proofs.YtbijjomknbnmfaaGreatDoor
