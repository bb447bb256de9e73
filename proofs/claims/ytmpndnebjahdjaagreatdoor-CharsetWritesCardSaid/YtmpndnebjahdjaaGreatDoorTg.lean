/- Plain: Big5: each sign of one code is found at its code. -/
import Derived.Test.YtmpndnebjahdjaaGreatDoorTe
import Derived.Test.YtmpndnebjahdjaaGreatDoorTk
namespace Go.Proofs.YtmpndnebjahdjaaGreatDoor
open Go.RowKit
set_option linter.unusedVariables false
set_option linter.unusedSimpArgs false

def bfindQ : List (Int × Int × List Int) → Int → Option Int
  | [], _ => none
  | s :: l, p => match findI s.2.2 p 0 with
    | some j => some (s.1 * 256 + bsecond (s.2.1 + (j : Int)))
    | none => bfindQ l p
def bV : Option Int → List UInt8 × Int
  | some c => (bigL c 2, 1)
  | none => ([], 0)
theorem bfindL_Q (p : Int) : ∀ l : List (Int × Int × ByteArray), (∀ s ∈ l, hexOk (bl s.2.2) = true) → bfindL l p = bV (bfindQ (l.map conv) p) := by
  intro l
  induction l with
  | nil => intro _; rfl
  | cons s l ih =>
    intro h
    rw [bfindL, List.map_cons, bfindQ, findM_pts _ (h s (by simp)) p]
    have e : (conv s).2.2 = hexPts (bl s.2.2) := rfl
    rw [e]
    cases hf : findI (hexPts (bl s.2.2)) p 0 with
    | some j => rw [findP_some hf, if_pos (by omega)]; rfl
    | none => rw [findP_none hf, if_neg (by decide)]; exact ih fun t ht => h t (by simp [ht])
theorem bStr_hex : ∀ i : Fin 11, hexOk (bl (bStr i.val)) = true := by decide +kernel
theorem bSpansOf_hex (S : Nat → ByteArray) (k : ∀ i, i < 11 → hexOk (bl (S i)) = true) (s : Int × Int × ByteArray) (h : s ∈ bSpansOf S) : hexOk (bl s.2.2) = true := by
  simp only [bSpansOf, List.mem_cons, List.not_mem_nil, or_false] at h
  rcases h with h | h | h | h | h | h | h | h | h | h | h
  all_goals subst h
  all_goals exact k _ (by omega)
theorem bSpans_hex (s : Int × Int × ByteArray) (h : s ∈ bSpans) : hexOk (bl s.2.2) = true := bSpansOf_hex bStr (fun i hi => bStr_hex ⟨i, hi⟩) s h
def okBack (L : List (Int × Int × List Int)) (lead : Int) (c : Nat) (p : Int) : Bool :=
  decide (p = 0) || (decide (128 ≤ p) && decide (p ≠ 772) && decide (p ≠ 780) && decide (bfindQ L p = some (lead * 256 + bsecond (c : Int))))
set_option maxRecDepth 100000 in
theorem back_rows : [(136 : Int), 161, 163, 164, 165].all (fun lead => (List.range 157).all fun c => forceI (q63 ((pts (bl (rowT lead))).getD c 0)) (okBack (bSpans.map conv) lead c)) = true := by decide +kernel
end Go.Proofs.YtmpndnebjahdjaaGreatDoor
/- Plain: what is decoded is encoded as it was: Big5. -/
namespace Go.Proofs.YtmpndnebjahdjaaGreatDoor
open Go.RowKit
set_option linter.unusedVariables false
set_option linter.unusedSimpArgs false

theorem oneR_back (lead b : Int) (h2 : 0 ≤ b) (h3 : b ≤ 255) (hz : oneR lead b ≠ 0) : 128 ≤ oneR lead b ∧ oneR lead b ≠ 772 ∧ oneR lead b ≠ 780 ∧ bfindL bSpans (oneR lead b) = (bigL (lead * 256 + b) 2, 1) := by
  unfold oneR at hz ⊢
  obtain ⟨c0, c1⟩ := b5cell_bd b
  by_cases hc : b5cell b < 0
  · rw [if_pos hc] at hz; exact absurd rfl hz
  rw [if_neg hc] at hz ⊢
  have hb : bsecond (b5cell b) = b := by
    unfold b5cell at hc ⊢
    unfold bsecond
    repeat' split
    all_goals omega
  by_cases hl : lead = 136 ∨ lead = 161 ∨ lead = 163 ∨ lead = 164 ∨ lead = 165
  · have h := back_rows
    rw [List.all_eq_true] at h
    have h1 := h lead (by rcases hl with h | h | h | h | h <;> (subst h; decide))
    rw [List.all_eq_true] at h1
    have h2 := h1 (b5cell b).toNat (List.mem_range.2 (by omega))
    rw [forceI_eq] at h2
    unfold okBack at h2
    rw [decide_eq_false hz, Bool.false_or, Bool.and_eq_true, Bool.and_eq_true, Bool.and_eq_true, decide_eq_true_eq, decide_eq_true_eq, decide_eq_true_eq, decide_eq_true_eq, show ((b5cell b).toNat : Int) = b5cell b from by omega, hb] at h2
    refine ⟨h2.1.1.1, h2.1.1.2, h2.1.2, ?_⟩
    rw [bfindL_Q _ _ bSpans_hex, h2.2]
    rfl
  · exfalso
    apply hz
    have e : rowT lead = ⟨#[]⟩ := by
      unfold rowT
      rw [if_neg (by omega), if_neg (by omega), if_neg (by omega), if_neg (by omega), if_neg (by omega)]
    rw [e]
    rfl
theorem btwo_none (p : Int) (q : Option Int) (h : q ≠ some 772 ∧ q ≠ some 780) : btwoL bTwos p q = none := by
  unfold bTwos
  rw [btwoL, if_neg (by intro h'; exact h.1 h'.2), btwoL, if_neg (by intro h'; exact h.2 h'.2), btwoL, if_neg (by intro h'; exact h.1 h'.2), btwoL, if_neg (by intro h'; exact h.2 h'.2), btwoL]
theorem twoR_cases (lead b : Int) (h0 : 0 ≤ lead) (h1 : lead ≤ 255) (h2 : 0 ≤ b) (h3 : b ≤ 255) (h : (twoR lead b).1 ≠ 0) : ∃ (c p q : Int), twoR lead b = (p, q) ∧ 128 ≤ p ∧ Scal p ∧ Scal q ∧ p ≠ 772 ∧ p ≠ 780 ∧ btwoL bTwos p (some q) = some c ∧ 136 * 256 + c = lead * 256 + b := by
  unfold twoR at h ⊢
  by_cases c1 : lead * 256 + b = 34914
  · rw [if_pos c1]
    exact ⟨98, 202, 772, rfl, by omega, by unfold Scal; omega, by unfold Scal; omega, by omega, by omega, by decide, by omega⟩
  by_cases c2 : lead * 256 + b = 34916
  · rw [if_neg c1, if_pos c2]
    exact ⟨100, 202, 780, rfl, by omega, by unfold Scal; omega, by unfold Scal; omega, by omega, by omega, by decide, by omega⟩
  by_cases c3 : lead * 256 + b = 34979
  · rw [if_neg c1, if_neg c2, if_pos c3]
    exact ⟨163, 234, 772, rfl, by omega, by unfold Scal; omega, by unfold Scal; omega, by omega, by omega, by decide, by omega⟩
  by_cases c4 : lead * 256 + b = 34981
  · rw [if_neg c1, if_neg c2, if_neg c3, if_pos c4]
    exact ⟨165, 234, 780, rfl, by omega, by unfold Scal; omega, by unfold Scal; omega, by omega, by omega, by decide, by omega⟩
  · rw [if_neg c1, if_neg c2, if_neg c3, if_neg c4] at h; exact absurd rfl h
theorem big_signs (x y : UInt8) : signsM 6 x.toNat y.toNat = signs8R x.toNat y.toNat := by
  have hx := x.toNat_lt
  have hy := y.toNat_lt
  have h : ∀ l s : Int, signsM 6 l s = (bSignsM l s).1 := fun _ _ => rfl
  rw [h, signs8_eq _ _ (by omega) (by omega) (by omega) (by omega)]
/-- the sign ahead of what is decoded is none of the second ones. -/
theorem head_big (l r : List UInt8) (h : Reads (tok2 6) l r) (hr : r ≠ []) : (dec r).1 ≠ 772 ∧ (dec r).1 ≠ 780 := by
  cases h with
  | nil => exact absurd rfl hr
  | cons l t k r' hl hd hrr =>
    unfold tok2 at hd
    have low : ∀ (b : UInt8) (r : List UInt8), b < 128 → (dec ([b] ++ r)).1 ≠ 772 ∧ (dec ([b] ++ r)).1 ≠ 780 := by
      intro b r hb
      have hb' : b.toNat < 128 := hb
      rw [show [b] ++ r = b :: r from rfl, dec_plain b r hb']
      simp only
      omega
    match l, hd with
    | [b], hd =>
      simp only [tokD] at hd
      split at hd
      · next hb => obtain ⟨rfl, rfl⟩ := Prod.mk.inj (Option.some.inj hd); exact low b r' hb
      · cases hd
    | x :: y :: q, hd =>
      have hx := x.toNat_lt
      have hy := y.toNat_lt
      simp only [tokD] at hd
      split at hd
      · next hb => obtain ⟨rfl, rfl⟩ := Prod.mk.inj (Option.some.inj hd); exact low x r' hb
      · split at hd
        · cases hd
        · next hs =>
          obtain ⟨rfl, rfl⟩ := Prod.mk.inj (Option.some.inj hd)
          rw [big_signs] at hs ⊢
          unfold signs8R at hs ⊢
          by_cases ht : (twoR x.toNat y.toNat).1 ≠ 0
          · obtain ⟨c, p, p2, e, e1, e2, e3, e4, e5, _, _⟩ := twoR_cases x.toNat y.toNat (by omega) (by omega) (by omega) (by omega) ht
            rw [if_pos ht, e]
            simp only
            rw [List.append_assoc]
            obtain ⟨_, _, d3⟩ := dec_head p e2 (encR p2 ++ r')
            omega
          · rw [if_neg ht] at hs ⊢
            by_cases ho : oneR x.toNat y.toNat ≠ 0
            · obtain ⟨g1, g2, g3, _⟩ := oneR_back x.toNat y.toNat (by omega) (by omega) ho
              have hsc := (oneM_eq x.toNat y.toNat).2.resolve_left ho
              rw [if_pos ho]
              obtain ⟨_, _, d3⟩ := dec_head _ hsc r'
              omega
            · rw [if_neg ho] at hs; exact absurd rfl hs
theorem pos_5 (l t : List UInt8) (k : Nat) (h : tok5 l = some (t, k)) : 1 ≤ k := by
  have hp := dec_pos l
  rcases hd : dec l with ⟨p, j⟩
  rw [tok5_eq l p j hd] at h
  rw [hd] at hp
  simp only at hp
  generalize bBytesM (if l.drop j = [] then [(p : Int)] else [(p : Int), ((dec (l.drop j)).1 : Int)]) = X at h
  by_cases c1 : p < 128
  · rw [if_pos c1] at h
    have := (Prod.mk.inj (Option.some.inj h)).2; omega
  rw [if_neg c1] at h
  by_cases c2 : X.2 = 0
  · rw [if_pos c2] at h; cases h
  rw [if_neg c2] at h
  by_cases c3 : X.2 = 2
  · rw [if_pos c3] at h
    have := (Prod.mk.inj (Option.some.inj h)).2; omega
  · rw [if_neg c3] at h
    have := (Prod.mk.inj (Option.some.inj h)).2; omega
theorem bBytes_two (p q c : Int) (h : btwoL bTwos p (some q) = some c) : bBytesM [p, q] = (bigL (136 * 256 + c) 2, 2) := by
  show (match btwoL bTwos p (some q) with | some c => (bigL (136 * 256 + c) 2, (2 : Int)) | none => bfindL bSpans p) = _
  rw [h]
theorem bBytes_one (p : Int) (r : List Int) (h : btwoL bTwos p r.head? = none) : bBytesM (p :: r) = bfindL bSpans p := by
  show (match btwoL bTwos p r.head? with | some c => (bigL (136 * 256 + c) 2, (2 : Int)) | none => bfindL bSpans p) = _
  rw [h]
theorem back_big (l t : List UInt8) (h : decT (tokC 6) l = (t, none)) : decT tok5 t = (l, none) := by
  rw [tokC_two 6 (by omega) (by omega)] at h
  have N : ∀ l t k, tok2 6 l = some (t, k) → 1 ≤ k := fun l t k h => (near_D _).pos l t k h |>.1
  have hr := reads_dec N l t h
  refine dec_reads pos_5 t l (reads_back (fun l t k r hl hd hrr => ?_) l t hr)
  have hhead := head_big _ r hrr
  unfold tok2 at hd
  have low : ∀ (b : UInt8) (r : List UInt8), b < 128 → tok5 ([b] ++ r) = some ([b], 1) := by
    intro b r hb
    have hb' : b.toNat < 128 := hb
    show tok5 (b :: r) = _
    rw [tok5_eq _ b.toNat 1 (dec_plain b r hb'), if_pos hb']
    simp
  match l, hd, hrr with
  | [b], hd, _ =>
    simp only [tokD] at hd
    split at hd
    · next hb => obtain ⟨rfl, rfl⟩ := Prod.mk.inj (Option.some.inj hd); exact ⟨by simp, low b r hb⟩
    · cases hd
  | x :: y :: q, hd, _ =>
    have hx := x.toNat_lt
    have hy := y.toNat_lt
    simp only [tokD] at hd
    split at hd
    · next hb => obtain ⟨rfl, rfl⟩ := Prod.mk.inj (Option.some.inj hd); exact ⟨by simp, low x r hb⟩
    · next hb =>
      split at hd
      · cases hd
      · next hs =>
        obtain ⟨rfl, rfl⟩ := Prod.mk.inj (Option.some.inj hd)
        refine ⟨hs, ?_⟩
        rw [big_signs] at hs ⊢
        unfold signs8R at hs ⊢
        by_cases ht : (twoR x.toNat y.toNat).1 ≠ 0
        · obtain ⟨c, p, p2, e, e1, e2, e3, e4, e5, e6, e7⟩ := twoR_cases x.toNat y.toNat (by omega) (by omega) (by omega) (by omega) ht
          rw [if_pos ht, e]
          simp only
          rw [List.append_assoc]
          obtain ⟨d1, d2, d3⟩ := dec_head p e2 (encR p2 ++ r)
          obtain ⟨f1, f2, f3⟩ := dec_head p2 e3 r
          have hne : encR p2 ++ r ≠ [] := encR_ne p2 r
          have hpp : ((p.toNat : Nat) : Int) = p := by omega
          rw [tok5_eq _ p.toNat (encR p).length (dec_encR p e2 _), if_neg (show ¬ p.toNat < 128 from by omega), List.drop_left, if_neg hne, f3, hpp, bBytes_two p p2 c e6, e7, bigL2]
          simp only
          rw [if_neg (by decide), if_pos trivial]
          unfold dec0
          rw [if_neg hne, f2, List.length_append]
          rfl
        · rw [if_neg ht] at hs ⊢
          by_cases ho : oneR x.toNat y.toNat ≠ 0
          · obtain ⟨g1, g2, g3, g4⟩ := oneR_back x.toNat y.toNat (by omega) (by omega) ho
            have hsc := (oneM_eq x.toNat y.toNat).2.resolve_left ho
            rw [if_pos ho]
            generalize oneR x.toNat y.toNat = p at *
            obtain ⟨d1, d2, d3⟩ := dec_head p hsc r
            have eB : bBytesM (if r = [] then [p] else [p, ((dec r).1 : Int)]) = (bigL ((x.toNat : Int) * 256 + y.toNat) 2, 1) := by
              by_cases hr : r = []
              · rw [if_pos hr, bBytes_one p [] (btwo_none p none ⟨by simp, by simp⟩), g4]
              · have := hhead hr
                rw [if_neg hr, bBytes_one p [((dec r).1 : Int)] (btwo_none p _ ⟨by simp; omega, by simp; omega⟩), g4]
            have hpp : ((p.toNat : Nat) : Int) = p := by omega
            rw [tok5_eq _ p.toNat (encR p).length (dec_encR p hsc _), if_neg (show ¬ p.toNat < 128 from by omega), List.drop_left, hpp, eB, bigL2]
            simp only
            rw [if_neg (by decide), if_neg (by decide)]
            rfl
          · rw [if_neg ho] at hs; exact absurd rfl hs
end Go.Proofs.YtmpndnebjahdjaaGreatDoor
