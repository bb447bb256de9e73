/- Plain: the rows that are told sign by sign (layers 7, 8) are those of the program. -/
import Derived.Test.YtbijjomknbnmfaaGreatDoorRi
import Derived.Test.YtbijjomknbnmfaaGreatDoorBj
namespace Go.Proofs.YtbijjomknbnmfaaGreatDoor
open Go.RowKit
set_option linter.unusedVariables false
set_option linter.unusedSimpArgs false

/-- the signs of a list, four digits and a blank each. -/
def hexPtsF : Nat → List UInt8 → List Int
  | 0, _ => []
  | f + 1, l => hexAt l 0 4 :: hexPtsF f (l.drop 5)
def hexPts (l : List UInt8) : List Int := hexPtsF (l.length / 5) l
theorem hexAt_drop (l : List UInt8) (k : Nat) : ∀ j, hexAt (l.drop 5) k j = hexAt l (k + 1) j := by
  intro j
  induction j with
  | zero => rfl
  | succ j ih =>
    have e : (l.drop 5).getD (k * 5 + j) 0 = l.getD ((k + 1) * 5 + j) 0 := by
      rw [List.getD_eq_getElem?_getD, List.getD_eq_getElem?_getD, List.getElem?_drop, show 5 + (k * 5 + j) = (k + 1) * 5 + j from by omega]
    rw [hexAt, hexAt, ih, e]
theorem hexPtsF_at : ∀ (f k : Nat) (l : List UInt8), k < f → (hexPtsF f l)[k]? = some (hexAt l k 4) := by
  intro f
  induction f with
  | zero => intro k l h; omega
  | succ f ih =>
    intro k l h
    rw [hexPtsF]
    cases k with
    | zero => rfl
    | succ k => rw [List.getElem?_cons_succ, ih k _ (by omega), hexAt_drop]
theorem hexPtsF_len : ∀ (f : Nat) (l : List UInt8), (hexPtsF f l).length = f := by
  intro f
  induction f with
  | zero => intro l; rfl
  | succ f ih => intro l; rw [hexPtsF, List.length_cons, ih]
def optP : Option Int → Int × Bool
  | some p => (p, true)
  | none => (0, false)
def sound (p : Int) : Bool := scalar p && decide (p ≠ 0)
theorem optP_at (l : List Int) (h : l.all sound = true) (k : Nat) : optP l[k]? = optZ (l.getD k 0) := by
  rw [List.getD_eq_getElem?_getD]
  cases hk : l[k]? with
  | none => rfl
  | some p =>
    have := List.all_eq_true.1 h p (List.mem_of_getElem? hk)
    unfold sound at this
    rw [Bool.and_eq_true, decide_eq_true_eq] at this
    exact (optZ_some p this.2).symm
theorem atM_pts (l : List UInt8) (k : Nat) : atM l (k : Int) = optP (hexPts l)[k]? := by
  unfold atM hexPts
  by_cases h : k < l.length / 5
  · rw [hexPtsF_at _ _ _ h, if_neg (by omega), Int.toNat_natCast]
    simp only [optP]
    rw [decide_eq_false (by omega)]
    rfl
  · rw [List.getElem?_eq_none (by rw [hexPtsF_len]; omega), if_pos (.inr (by omega)), decide_eq_true (by exact .inr (by omega))]
    rfl
theorem atM_neg (l : List UInt8) (k : Int) (h : k < 0) : atM l k = (0, false) := by
  unfold atM
  rw [if_pos (.inl h), decide_eq_true (.inl h)]
  rfl
set_option maxRecDepth 100000 in
theorem row_a1 : hexPts (bl (wRow 4)) = pts (bl a1T) ∧ (hexPts (bl (wRow 4))).all sound = true := by decide +kernel
set_option maxRecDepth 100000 in
theorem row_a2 : hexPts (bl (wRow 6)) = pts (bl a2T) ∧ (hexPts (bl (wRow 6))).all sound = true := by decide +kernel
set_option maxRecDepth 100000 in
theorem row_a6 : hexPts (bl (wRow 8)) = pts (bl a6T) ∧ (hexPts (bl (wRow 8))).all sound = true := by decide +kernel
theorem getD_scal (l : List Int) (h : l.all sound = true) (k : Nat) : l.getD k 0 = 0 ∨ Scal (l.getD k 0) := by
  rw [List.getD_eq_getElem?_getD]
  cases hk : l[k]? with
  | none => exact .inl rfl
  | some p =>
    have := List.all_eq_true.1 h p (List.mem_of_getElem? hk)
    unfold sound at this
    rw [Bool.and_eq_true] at this
    exact .inr (scal_of this.1)
/-- a row that is told by spans: its signs are those of the program. -/
def spanOk (lead b : Int) : Bool := decide (spanSign (lead * 256 + b) (wSpans.find? (inSpan (lead * 256 + b))) = optZ (rowS lead b)) && (decide (rowS lead b = 0) || scalar (rowS lead b))
theorem spans_ok : (List.range 12).all (fun (l : Nat) => decide (l = 0 ∨ l = 1 ∨ l = 5) || (List.range 94).all fun (s : Nat) => spanOk (161 + (l : Int)) (161 + (s : Int))) = true := by decide +kernel
theorem other_not (code : Int) (lead b : Int) (hc : code = lead * 256 + b) (hb0 : 161 ≤ b) (hb1 : b ≤ 254) (h1 : lead ≠ 161) (h2 : lead ≠ 162) (h6 : lead ≠ 166) :
    otherM code = spanSign code (wSpans.find? (inSpan code)) := by
  have e1 : code % 256 = b := by omega
  have e2 : code / 256 = lead := by omega
  unfold otherM
  rw [e1, e2, if_neg (by omega)]
  have : wRowL lead = ⟨#[]⟩ := by unfold wRowL; rw [if_neg h1, if_neg h2, if_neg h6]
  rw [this, if_neg (by simp [bl])]
theorem other_in (code : Int) (lead b : Int) (S : ByteArray) (hc : code = lead * 256 + b) (hb0 : 161 ≤ b) (hb1 : b ≤ 254) (hS : wRowL lead = S) (hn : 0 < S.size) :
    otherM code = optP (hexPts (bl S))[(b - 161).toNat]? := by
  have e1 : code % 256 = b := by omega
  have e2 : code / 256 = lead := by omega
  unfold otherM
  rw [e1, e2, if_neg (by omega), hS, if_pos, ← atM_pts]
  · congr 1; omega
  · intro h
    have := bl_length S
    rw [h] at this
    simp at this
    omega
theorem spans_end : ∀ s ∈ wSpans, s.1 + s.2.2 ≤ 44274 := by decide
theorem rowW_eq (lead b : Int) (h0 : 161 ≤ lead) (hb0 : 161 ≤ b) (hb1 : b ≤ 254) : otherM (lead * 256 + b) = optZ (rowW lead b) ∧ (rowW lead b = 0 ∨ Scal (rowW lead b)) := by
  obtain ⟨s1, s2, s6⟩ := wRow_size
  by_cases h1 : lead = 161
  · have e := other_in _ lead b (wRow 4) rfl hb0 hb1 (by unfold wRowL; rw [if_pos h1]) (by omega)
    have hs : (pts (bl a1T)).all sound = true := by rw [← row_a1.1]; exact row_a1.2
    have e2 : rowW lead b = (pts (bl a1T)).getD (b - 161).toNat 0 := by unfold rowW; rw [if_pos h1]
    rw [e, row_a1.1, e2]
    exact ⟨optP_at _ hs _, getD_scal _ hs _⟩
  by_cases h2 : lead = 162
  · have e := other_in _ lead b (wRow 6) rfl hb0 hb1 (by unfold wRowL; rw [if_neg h1, if_pos h2]) (by omega)
    have hl : (hexPts (bl (wRow 6))).length = 71 := by unfold hexPts; rw [hexPtsF_len, bl_length, s2]
    have e2 : rowW lead b = (pts (bl a2T)).getD (b - 161).toNat 0 := by
      unfold rowW
      rw [if_neg h1, if_pos h2]
      split
      · rfl
      · rw [← row_a2.1, List.getD_eq_getElem?_getD, List.getElem?_eq_none (by omega)]; rfl
    have hs : (pts (bl a2T)).all sound = true := by rw [← row_a2.1]; exact row_a2.2
    rw [e, row_a2.1, e2]
    exact ⟨optP_at _ hs _, getD_scal _ hs _⟩
  by_cases h6 : lead = 166
  · have e := other_in _ lead b (wRow 8) rfl hb0 hb1 (by unfold wRowL; rw [if_neg h1, if_neg h2, if_pos h6]) (by omega)
    have hl : (hexPts (bl (wRow 8))).length = 68 := by unfold hexPts; rw [hexPtsF_len, bl_length, s6]
    have e2 : rowW lead b = (pts (bl a6T)).getD (b - 161).toNat 0 := by
      unfold rowW
      rw [if_neg h1, if_neg h2, if_pos h6]
      split
      · rfl
      · rw [← row_a6.1, List.getD_eq_getElem?_getD, List.getElem?_eq_none (by omega)]; rfl
    have hs : (pts (bl a6T)).all sound = true := by rw [← row_a6.1]; exact row_a6.2
    rw [e, row_a6.1, e2]
    exact ⟨optP_at _ hs _, getD_scal _ hs _⟩
  have eS : rowW lead b = rowS lead b := by unfold rowW; rw [if_neg h1, if_neg h2, if_neg h6]
  rw [eS, other_not _ lead b rfl hb0 hb1 h1 h2 h6]
  by_cases hl : lead ≤ 172
  · have h := spans_ok
    rw [List.all_eq_true] at h
    have h3 := h (lead - 161).toNat (List.mem_range.2 (by omega))
    rw [decide_eq_false (by omega), Bool.false_or, List.all_eq_true] at h3
    have h4 := h3 (b - 161).toNat (List.mem_range.2 (by omega))
    rw [show (161 : Int) + ((lead - 161).toNat : Nat) = lead from by omega, show (161 : Int) + ((b - 161).toNat : Nat) = b from by omega] at h4
    unfold spanOk at h4
    rw [Bool.and_eq_true, Bool.or_eq_true, decide_eq_true_eq, decide_eq_true_eq] at h4
    exact ⟨h4.1, h4.2.imp id scal_of⟩
  · have e1 : rowS lead b = 0 := by
      unfold rowS
      repeat' (first | rw [if_neg (by omega)])
    have e2 : wSpans.find? (inSpan (lead * 256 + b)) = none := by
      rw [List.find?_eq_none]
      intro s hs
      have := spans_end s hs
      unfold inSpan
      simp only [decide_eq_true_eq]
      omega
    rw [e1, e2]
    exact ⟨rfl, .inl rfl⟩
theorem kthF_bd (within : Bool) : ∀ (f n k : Nat), n + f ≤ 11172 → kthF within f n k = 0 ∨ Scal (kthF within f n k) := by
  intro f
  induction f with
  | zero => intro n k h; exact .inl rfl
  | succ f ih =>
    intro n k h
    rw [kthF]
    split
    · split
      · unfold Scal; right; omega
      · exact ih _ _ (by omega)
    · exact ih _ _ (by omega)
theorem kthM_bd (k : Int) (within : Bool) : kthM k within = 0 ∨ Scal (kthM k within) := by
  unfold kthM
  split
  · exact .inl rfl
  · exact kthF_bd _ _ _ _ (by omega)
theorem signW_eq (lead b : Int) (h0 : 0 ≤ lead) (h1 : lead ≤ 255) (h2 : 0 ≤ b) (h3 : b ≤ 255) : wSignM lead b = optZ (signW lead b) ∧ (signW lead b = 0 ∨ Scal (signW lead b)) := by
  unfold signW wSignM
  by_cases hl : lead < 129 ∨ 254 < lead
  · rw [if_pos hl, if_pos (show numberM b < 0 ∨ lead < 129 ∨ 254 < lead from .inr hl)]
    exact ⟨rfl, .inl rfl⟩
  rw [if_neg hl]
  by_cases hn : numberM b < 0
  · rw [if_pos (show numberM b < 0 ∨ lead < 129 ∨ 254 < lead from .inl hn)]
    by_cases hr : 161 ≤ lead ∧ 161 ≤ b
    · have hb : b = 255 := by unfold numberM at hn; omega
      rw [if_pos hr]
      unfold rowM
      rw [if_pos (by omega)]
      exact ⟨rfl, .inl rfl⟩
    · rw [if_neg hr, if_pos hn]
      exact ⟨rfl, .inl rfl⟩
  rw [if_neg (show ¬ (numberM b < 0 ∨ lead < 129 ∨ 254 < lead) from by omega)]
  by_cases ha : lead < 161
  · rw [if_neg (show ¬ (161 ≤ lead ∧ 161 ≤ b) from by omega), if_neg hn]
    simp only [if_pos ha]
    exact ⟨kthM_eq _ _, kthM_bd _ _⟩
  by_cases hb : b < 161
  · rw [if_neg (show ¬ (161 ≤ lead ∧ 161 ≤ b) from by omega), if_neg hn]
    simp only [if_neg ha, if_pos hb]
    exact ⟨kthM_eq _ _, kthM_bd _ _⟩
  have hb4 : b ≤ 254 := by unfold numberM at hn; omega
  rw [if_pos (show 161 ≤ lead ∧ 161 ≤ b from by omega)]
  simp only [if_neg ha, if_neg hb]
  have hR := rowW_eq lead b (by omega) (by omega) hb4
  unfold rowM
  rw [if_neg (show ¬ 94 ≤ b - 161 from by omega), show (lead - 161) * 94 + (b - 161) - 1410 = (lead - 176) * 94 + b - 161 from by omega, show (lead - 161 + 161) * 256 + (b - 161 + 161) = lead * 256 + b from by omega]
  by_cases hk : 176 ≤ lead ∧ lead ≤ 200
  · simp only [if_pos hk]
    refine ⟨?_, kthM_bd _ _⟩
    have hc := kthM_eq ((lead - 176) * 94 + b - 161) true
    by_cases hz : kthM ((lead - 176) * 94 + b - 161) true = 0
    · rw [hc, hz, if_neg (by decide), hR.1]
      have e1 : rowW lead b = 0 := by
        unfold rowW rowS
        repeat' (first | rw [if_neg (by omega)])
      rw [e1]
    · rw [optZ_some _ hz] at hc
      rw [hc, if_pos rfl, optZ_some _ hz]
  · simp only [if_neg hk]
    have hc : (chooseM ((lead - 176) * 94 + b - 161) true).2 = false := by
      by_cases h : lead < 176
      · unfold chooseM; rw [if_pos (by omega)]
      · exact choose_out _ (by omega)
    rw [hc, if_neg (by decide)]
    exact hR
end Go.Proofs.YtbijjomknbnmfaaGreatDoor
