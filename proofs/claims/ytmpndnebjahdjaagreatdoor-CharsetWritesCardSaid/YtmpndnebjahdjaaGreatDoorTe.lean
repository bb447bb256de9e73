/- Plain: what is decoded is encoded as it was: CP949. -/
import Derived.Test.YtmpndnebjahdjaaGreatDoorTa
import Derived.Test.YtmpndnebjahdjaaGreatDoorTc
namespace Go.Proofs.YtmpndnebjahdjaaGreatDoor
open Go.RowKit
set_option linter.unusedVariables false
set_option linter.unusedSimpArgs false

/-- the place of a sign in a list, counted from i on. -/
def findI : List Int → Int → Nat → Option Nat
  | [], _, _ => none
  | q :: l, p, i => if q = p then some i else findI l p (i + 1)
theorem findI_P (p : Int) : ∀ (l : List Int) (i : Nat), findP l p = (match findI l p i with | some j => (j : Int) - i | none => -1) ∧ (∀ j, findI l p i = some j → i ≤ j) := by
  intro l
  induction l with
  | nil => intro i; exact ⟨rfl, fun j h => by cases h⟩
  | cons q l ih =>
    intro i
    rw [findP, findI]
    by_cases h : q = p
    · rw [if_pos h, if_pos h]
      exact ⟨by simp, fun j hj => by have := Option.some.inj hj; omega⟩
    · rw [if_neg h, if_neg h]
      obtain ⟨h1, h2⟩ := ih (i + 1)
      cases hf : findI l p (i + 1) with
      | none =>
        rw [hf] at h1
        simp only at h1
        exact ⟨by rw [h1, if_pos rfl], fun j hj => by cases hj⟩
      | some j =>
        rw [hf] at h1
        simp only at h1
        have hj := h2 j hf
        refine ⟨?_, fun k hk => by have := Option.some.inj hk; omega⟩
        simp only
        rw [h1, if_neg (by omega)]
        omega
theorem findP_some {l : List Int} {p : Int} {j : Nat} (h : findI l p 0 = some j) : findP l p = (j : Int) := by
  rw [(findI_P p l 0).1, h]; simp
theorem findP_none {l : List Int} {p : Int} (h : findI l p 0 = none) : findP l p = -1 := by
  rw [(findI_P p l 0).1, h]
/-- the code of a sign that is no syllable, by the lists' signs. -/
def ocP (A1 A2 A6 : List Int) (p : Int) : Option Int := match findI A1 p 0 with
  | some j => some (41377 + (j : Int))
  | none => match findI A2 p 0 with
    | some j => some (41633 + (j : Int))
    | none => match findI A6 p 0 with
      | some j => some (42657 + (j : Int))
      | none => (wSpans.find? (inTo p)).map fun s => s.1 + (p - s.2.1)
theorem wRow_ok : hexOk (bl (wRow 4)) = true ∧ hexOk (bl (wRow 6)) = true ∧ hexOk (bl (wRow 8)) = true := by refine ⟨?_, ?_, ?_⟩ <;> decide +kernel
theorem ocRows_empty (p : Int) (f : Nat) (lead : Int) (h : wRowL lead = ⟨#[]⟩) : ocRows p (f + 1) lead = ocRows p f (lead + 1) := by
  rw [ocRows, h, show bl (⟨#[]⟩ : ByteArray) = [] from rfl, findM_nil, if_neg (by decide)]
theorem otherCodeM_P (p : Int) : otherCodeM p = ocP (hexPts (bl (wRow 4))) (hexPts (bl (wRow 6))) (hexPts (bl (wRow 8))) p := by
  obtain ⟨o1, o2, o6⟩ := wRow_ok
  have r1 : wRowL 161 = wRow 4 := by unfold wRowL; rw [if_pos rfl]
  have r2 : wRowL 162 = wRow 6 := by unfold wRowL; rw [if_neg (by omega), if_pos rfl]
  have r3 : wRowL 163 = ⟨#[]⟩ := by unfold wRowL; rw [if_neg (by omega), if_neg (by omega), if_neg (by omega)]
  have r4 : wRowL 164 = ⟨#[]⟩ := by unfold wRowL; rw [if_neg (by omega), if_neg (by omega), if_neg (by omega)]
  have r5 : wRowL 165 = ⟨#[]⟩ := by unfold wRowL; rw [if_neg (by omega), if_neg (by omega), if_neg (by omega)]
  have r6 : wRowL 166 = wRow 8 := by unfold wRowL; rw [if_neg (by omega), if_neg (by omega), if_pos rfl]
  have q1 := findM_pts _ o1 p
  have q2 := findM_pts _ o2 p
  have q6 := findM_pts _ o6 p
  unfold otherCodeM ocP
  generalize hexPts (bl (wRow 4)) = A1 at *
  generalize hexPts (bl (wRow 6)) = A2 at *
  generalize hexPts (bl (wRow 8)) = A6 at *
  rw [show ocRows p 6 161 = if 0 ≤ findM (bl (wRowL 161)) p then some (161 * 256 + 161 + findM (bl (wRowL 161)) p) else ocRows p 5 162 from rfl, r1, q1]
  cases h1 : findI A1 p 0 with
  | some j => rw [findP_some h1, if_pos (by omega)]; simp only; congr 1
  | none =>
    rw [findP_none h1, if_neg (by decide)]
    rw [show ocRows p 5 162 = if 0 ≤ findM (bl (wRowL 162)) p then some (162 * 256 + 161 + findM (bl (wRowL 162)) p) else ocRows p 4 163 from rfl, r2, q2]
    cases h2 : findI A2 p 0 with
    | some j => rw [findP_some h2, if_pos (by omega)]; simp only; congr 1
    | none =>
      rw [findP_none h2, if_neg (by decide), ocRows_empty p 3 163 r3, show (163 : Int) + 1 = 164 from rfl, ocRows_empty p 2 164 r4, show (164 : Int) + 1 = 165 from rfl, ocRows_empty p 1 165 r5, show (165 : Int) + 1 = 166 from rfl]
      rw [show ocRows p 1 166 = if 0 ≤ findM (bl (wRowL 166)) p then some (166 * 256 + 161 + findM (bl (wRowL 166)) p) else none from rfl, r6, q6]
      cases h6 : findI A6 p 0 with
      | some j => rw [findP_some h6, if_pos (by omega)]; simp only; congr 1
      | none => rw [findP_none h6, if_neg (by decide)]
def rowV (A1 A2 A6 : List Int) (l s : Nat) : Int := if l = 0 then A1.getD s 0 else if l = 1 then A2.getD s 0 else if l = 5 then A6.getD s 0 else rowS (161 + (l : Int)) (161 + (s : Int))
def backAt (A1 A2 A6 : List Int) (l s : Nat) (p : Int) : Bool := decide (p = 0) || (decide (128 ≤ p) && decide (p < 44032 ∨ 55203 < p) && decide (ocP A1 A2 A6 p = some ((161 + (l : Int)) * 256 + (161 + (s : Int)))))
set_option maxRecDepth 100000 in
theorem rows_back : (fun A1 A2 A6 => (List.range 12).all fun l => (List.range 94).all fun s => forceI (rowV A1 A2 A6 l s) (backAt A1 A2 A6 l s)) (hexPts (bl (wRow 4))) (hexPts (bl (wRow 6))) (hexPts (bl (wRow 8))) = true := by decide +kernel
end Go.Proofs.YtmpndnebjahdjaaGreatDoor
/- Plain: what is decoded is encoded as it was: CP949, Big5. -/
namespace Go.Proofs.YtmpndnebjahdjaaGreatDoor
open Go.RowKit
set_option linter.unusedVariables false
set_option linter.unusedSimpArgs false

theorem rowW_back (lead b : Int) (h0 : 161 ≤ lead) (h1 : lead ≤ 254) (h2 : 161 ≤ b) (h3 : b ≤ 254) (hz : rowW lead b ≠ 0) : 128 ≤ rowW lead b ∧ (rowW lead b < 44032 ∨ 55203 < rowW lead b) ∧ otherCodeM (rowW lead b) = some (lead * 256 + b) := by
  by_cases hl : lead ≤ 172
  · have h := rows_back
    simp only at h
    rw [List.all_eq_true] at h
    have h4 := h (lead - 161).toNat (List.mem_range.2 (by omega))
    rw [List.all_eq_true] at h4
    have h5 := h4 (b - 161).toNat (List.mem_range.2 (by omega))
    rw [forceI_eq] at h5
    have e : rowV (hexPts (bl (wRow 4))) (hexPts (bl (wRow 6))) (hexPts (bl (wRow 8))) (lead - 161).toNat (b - 161).toNat = rowW lead b := by
      unfold rowV rowW
      rw [row_a1.1, row_a2.1, row_a6.1]
      by_cases c1 : lead = 161
      · rw [if_pos (by omega), if_pos c1]
      rw [if_neg (by omega), if_neg c1]
      by_cases c2 : lead = 162
      · rw [if_pos (by omega), if_pos c2]
        split
        · rfl
        · rw [List.getD_eq_getElem?_getD, List.getElem?_eq_none (by rw [a2T_len.2.2]; omega)]; rfl
      rw [if_neg (by omega), if_neg c2]
      by_cases c6 : lead = 166
      · rw [if_pos (by omega), if_pos c6]
        split
        · rfl
        · rw [List.getD_eq_getElem?_getD, List.getElem?_eq_none (by rw [a6T_len.2.2]; omega)]; rfl
      rw [if_neg (by omega), if_neg c6, show (161 : Int) + ((lead - 161).toNat : Nat) = lead from by omega, show (161 : Int) + ((b - 161).toNat : Nat) = b from by omega]
    rw [e] at h5
    unfold backAt at h5
    rw [decide_eq_false hz, Bool.false_or, Bool.and_eq_true, Bool.and_eq_true, decide_eq_true_eq, decide_eq_true_eq, decide_eq_true_eq, ← otherCodeM_P, show (161 : Int) + ((lead - 161).toNat : Nat) = lead from by omega, show (161 : Int) + ((b - 161).toNat : Nat) = b from by omega] at h5
    exact ⟨h5.1.1, h5.1.2, h5.2⟩
  · exfalso
    apply hz
    unfold rowW rowS
    repeat' (first | rw [if_neg (by omega)])
theorem wansung_signs (l s : Int) : signsM 4 l s = if (wSignM l s).2 = true then (textM [(wSignM l s).1]).1 else [] := rfl
theorem wBytes_sign (lead b : Int) (h0 : 0 ≤ lead) (h1 : lead ≤ 255) (h2 : 0 ≤ b) (h3 : b ≤ 255) (hz : signW lead b ≠ 0) : 128 ≤ signW lead b ∧ wBytesM (signW lead b) = bigL (lead * 256 + b) 2 := by
  by_cases hr : 161 ≤ lead ∧ 161 ≤ b ∧ ¬ (176 ≤ lead ∧ lead ≤ 200)
  · obtain ⟨r1, r2, r3⟩ := hr
    have e : signW lead b = rowW lead b ∧ lead ≤ 254 ∧ b ≤ 254 := by
      unfold signW at hz ⊢
      by_cases c1 : numberM b < 0 ∨ lead < 129 ∨ 254 < lead
      · rw [if_pos c1] at hz; exact absurd rfl hz
      · rw [if_neg c1, if_neg (by omega), if_neg (by omega), if_neg r3]
        refine ⟨rfl, by omega, ?_⟩
        have : ¬ numberM b < 0 := by omega
        unfold numberM at this
        omega
    obtain ⟨e, l4, b4⟩ := e
    rw [e] at hz ⊢
    obtain ⟨g1, g2, g3⟩ := rowW_back lead b r1 l4 r2 b4 hz
    refine ⟨g1, ?_⟩
    unfold wBytesM
    rw [if_neg (by omega), g3]
  · obtain ⟨g1, g2⟩ := code_syl lead b h0 h1 h2 h3 hz hr
    refine ⟨by omega, ?_⟩
    unfold wBytesM
    rw [if_pos g1, g2]
theorem back_wansung (l t : List UInt8) (h : decT (tokC 4) l = (t, none)) : decT (tokB wBytesM) t = (l, none) := by
  rw [tokC_two 4 (by omega) (by omega)] at h
  refine back_two 4 wBytesM (fun x y hs hx => ?_) l t h
  have hxl := x.toNat_lt
  have hyl := y.toNat_lt
  have hm := wansung_signs x.toNat y.toNat
  obtain ⟨e1, e2⟩ := signW_eq x.toNat y.toNat (by omega) (by omega) (by omega) (by omega)
  rw [e1] at hm
  by_cases hz : signW x.toNat y.toNat = 0
  · rw [hz] at hm
    exact absurd hm hs
  · have hsc := e2.resolve_left hz
    rw [optZ_some _ hz, if_pos rfl, textM_one _ hsc] at hm
    simp only at hm
    obtain ⟨g1, g2⟩ := wBytes_sign x.toNat y.toNat (by omega) (by omega) (by omega) (by omega) hz
    exact ⟨signW x.toNat y.toNat, hm, hsc, g1, by rw [g2, bigL2]⟩
end Go.Proofs.YtmpndnebjahdjaaGreatDoor
