/- Plain: the signs of two bytes in Big5, as the document has them, are the program's (layer 8). -/
import Derived.Test.YtbijjomknbnmfaaGreatDoorRk
namespace Go.Proofs.YtbijjomknbnmfaaGreatDoor
open Go.RowKit
set_option linter.unusedVariables false
set_option linter.unusedSimpArgs false

def conv (s : Int × Int × ByteArray) : Int × Int × List Int := (s.1, b5cell s.2.1, hexPts (bl s.2.2))
def oneP : List (Int × Int × List Int) → Int → Int → Int × Bool
  | [], _, _ => (0, false)
  | s :: l, lead, c => if s.1 = lead then (if c < s.2.1 then oneP l lead c else match s.2.2[(c - s.2.1).toNat]? with
      | some p => (p, true)
      | none => oneP l lead c) else oneP l lead c
theorem oneL_P (lead c : Int) : ∀ l, oneL l lead c = oneP (l.map conv) lead c := by
  intro l
  induction l with
  | nil => rfl
  | cons s l ih =>
    rw [oneL, List.map_cons, oneP]
    by_cases h : s.1 = lead
    · rw [if_pos h, if_pos (show (conv s).1 = lead from h)]
      by_cases hc : c < b5cell s.2.1
      · rw [atM_neg _ _ (by omega), if_neg (by decide), if_pos (show c < (conv s).2.1 from hc)]; exact ih
      · rw [if_neg (show ¬ c < (conv s).2.1 from hc)]
        obtain ⟨k, hk⟩ : ∃ k : Nat, c - b5cell s.2.1 = k := ⟨(c - b5cell s.2.1).toNat, by omega⟩
        have e1 : (c - (conv s).2.1).toNat = k := by show (c - b5cell s.2.1).toNat = k; omega
        have e2 : (conv s).2.2 = hexPts (bl s.2.2) := rfl
        rw [e1, hk, atM_pts, e2]
        cases (hexPts (bl s.2.2))[k]? with
        | none => exact ih
        | some p => rfl
    · rw [if_neg h, if_neg (show ¬ (conv s).1 = lead from h)]; exact ih
def okAt (L : List (Int × Int × List Int)) (R : List Int) (lead : Int) (c : Nat) : Bool :=
  decide (oneP L lead (c : Int) = optZ (q63 (R.getD c 0))) && (decide (q63 (R.getD c 0) = 0) || scalar (q63 (R.getD c 0)))
set_option maxRecDepth 100000 in
theorem ok_rows : [(136 : Int), 161, 163, 164, 165].all (fun lead => (List.range 157).all fun c => okAt (bSpans.map conv) (pts (bl (rowT lead))) lead c) = true := by decide +kernel
theorem oneL_none (lead c : Int) : ∀ l : List (Int × Int × ByteArray), (∀ s ∈ l, s.1 ≠ lead) → oneL l lead c = (0, false) := by
  intro l
  induction l with
  | nil => intro _; rfl
  | cons s l ih =>
    intro h
    rw [oneL, if_neg (h s (List.mem_cons_self ..))]
    exact ih fun t ht => h t (List.mem_cons_of_mem _ ht)
theorem bSpansOf_lead (S : Nat → ByteArray) : (bSpansOf S).all (fun s => s.1 == 136 || s.1 == 161 || s.1 == 163 || s.1 == 164 || s.1 == 165) = true := by rfl
theorem oneM_eq (lead b : Int) : oneM lead b = optZ (oneR lead b) ∧ (oneR lead b = 0 ∨ Scal (oneR lead b)) := by
  unfold oneM oneR
  obtain ⟨c0, c1⟩ := b5cell_bd b
  by_cases hc : b5cell b < 0
  · rw [if_pos hc, if_pos hc]; exact ⟨rfl, .inl rfl⟩
  rw [if_neg hc, if_neg hc]
  by_cases hl : lead = 136 ∨ lead = 161 ∨ lead = 163 ∨ lead = 164 ∨ lead = 165
  · have h := ok_rows
    rw [List.all_eq_true] at h
    have h1 := h lead (by rcases hl with h | h | h | h | h <;> (subst h; decide))
    rw [List.all_eq_true] at h1
    have h2 := h1 (b5cell b).toNat (List.mem_range.2 (by omega))
    unfold okAt at h2
    rw [Bool.and_eq_true, Bool.or_eq_true, decide_eq_true_eq, decide_eq_true_eq, show ((b5cell b).toNat : Int) = b5cell b from by omega] at h2
    rw [oneL_P]
    exact ⟨h2.1, h2.2.imp id scal_of⟩
  · have e : rowT lead = ⟨#[]⟩ := by
      unfold rowT
      rw [if_neg (by omega), if_neg (by omega), if_neg (by omega), if_neg (by omega), if_neg (by omega)]
    rw [e, oneL_none]
    · exact ⟨rfl, .inl rfl⟩
    · intro s hs he
      have h := List.all_eq_true.1 (bSpansOf_lead bStr) s hs
      simp only [Bool.or_eq_true, beq_iff_eq] at h
      omega
theorem one_sp : oneM 136 98 = (0, false) ∧ oneM 136 100 = (0, false) ∧ oneM 136 163 = (0, false) ∧ oneM 136 165 = (0, false) := by
  refine ⟨?_, ?_, ?_, ?_⟩ <;> decide +kernel
theorem textM_one (p : Int) (h : Scal p) : textM [p] = (encR p, true) := by
  have hs : scalar p = true := by unfold scalar; exact decide_eq_true h
  simp [textM, hs]
theorem signs8_eq (lead b : Int) (h0 : 0 ≤ lead) (h1 : lead ≤ 255) (h2 : 0 ≤ b) (h3 : b ≤ 255) : signs8R lead b = (bSignsM lead b).1 := by
  obtain ⟨o1, o2, o3, o4⟩ := one_sp
  by_cases hs : lead = 136 ∧ (b = 98 ∨ b = 100 ∨ b = 163 ∨ b = 165)
  · obtain ⟨rfl, hb⟩ := hs
    rcases hb with rfl | rfl | rfl | rfl
    · unfold bSignsM; rw [o1]; decide +kernel
    · unfold bSignsM; rw [o2]; decide +kernel
    · unfold bSignsM; rw [o3]; decide +kernel
    · unfold bSignsM; rw [o4]; decide +kernel
  · have e1 : twoR lead b = (0, 0) := by
      unfold twoR
      rw [if_neg (by omega), if_neg (by omega), if_neg (by omega), if_neg (by omega)]
    have e2 : twosL bTwos lead b = ([], false) := by
      unfold bTwos
      rw [twosL, if_neg (by intro h; exact hs ⟨h.1, .inl h.2⟩), twosL, if_neg (by intro h; exact hs ⟨h.1, .inr (.inl h.2)⟩), twosL, if_neg (by intro h; exact hs ⟨h.1, .inr (.inr (.inl h.2))⟩), twosL, if_neg (by intro h; exact hs ⟨h.1, .inr (.inr (.inr h.2))⟩), twosL]
    obtain ⟨e3, e4⟩ := oneM_eq lead b
    unfold signs8R bSignsM
    rw [e1, e2, e3]
    unfold optZ
    by_cases hz : oneR lead b = 0
    · rw [if_pos hz, if_neg (by simp), if_neg (by simpa using hz), if_neg (by simp)]
    · rw [if_neg hz, if_neg (by simp), if_pos hz, if_pos rfl, textM_one _ (e4.resolve_left hz)]
end Go.Proofs.YtbijjomknbnmfaaGreatDoor
