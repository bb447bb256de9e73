/- Walk: ref08.Code. -/
import Derived.Test.YtmpndnebjahdjaaGreatDoorUe
import Derived.Test.YtmpndnebjahdjaaGreatDoorQi
namespace Go.Proofs.YtmpndnebjahdjaaGreatDoor
open Go.RowKit
set_option linter.unusedVariables false
set_option linter.unusedSimpArgs false

def CodePost (r : Int × Int) (w : World) (e : Ending) (w' : World) : Prop := e = .returned (.tuple #[.int .i64 r.1, .int .i64 r.2]) ∧ Below w.heap.size w w'
/-- a row of leads, ahead of which the sign was not found. -/
def NotIn (p : Int) (i : Nat) : Prop := ∀ k, k < i → ∀ lead, leadsL[k]? = some lead → ∀ j : Nat, (pts (bl (rowT lead)))[j]? ≠ some p
theorem code_here (p lead : Int) (q : Option Int) (hp : 128 ≤ p) (hl : lead ∈ leadsL) (j : Nat) (h : (pts (bl (rowT lead)))[j]? = some p) (ht : btwoL bTwos p q = none) : codeQ p q = (lead * 256 + bsecond (j : Int), 1) := by
  unfold codeQ
  rw [ht]
  simp only
  rw [(row_bQ p hp lead hl j h).2]
theorem code_none (p : Int) (q : Option Int) (hn : NotIn p 5) (ht : btwoL bTwos p q = none) : codeQ p q = (-1, 0) := by
  unfold codeQ
  rw [ht]
  simp only
  cases hb : bQ p with
  | none => rfl
  | some c =>
    exfalso
    obtain ⟨lead, hl, j, h⟩ := bQ_in p c hb
    obtain ⟨k, hk⟩ := List.getElem?_of_mem hl
    have hk5 : k < 5 := (List.getElem?_eq_some_iff.1 hk).1
    exact hn k hk5 lead hk j h
set_option maxRecDepth 100000 in
set_option maxHeartbeats 16000000 in
theorem code8_any (v : Value) (p : Int) (rest : List Int) (w : World) (hrow : Row w v (rest.length + 1) (icells (p :: rest))) (hp : 128 ≤ p) (hl : rest.length ≤ 1000000) :
    Calls Tryz.prog 113 #[v] w (CodePost (codeQ p rest.head?) w) := by
  have K1 := Lib.hid (fun b w a c => two8_any 136 b w (by omega) (by omega) a c)
  have K2 := Lib.hid leads8_any
  have K3 := Lib.hid row8_any
  have K4 := Lib.hid (fun s i w a b => refAt_any s i w a b)
  obtain ⟨n, hn⟩ : ∃ n, n = rest.length + 1 := ⟨_, rfl⟩
  rw [← hn] at hrow
  obtain ⟨a, cap, rfl, hc⟩ := hrow
  obtain ⟨g, o, rfl, hc0⟩ := hc 0 (.int .i32 p) rfl
  have hc0 : w.cell? ⟨g, o, none⟩ = some (.int .i32 p) := hc0
  have hn1 : 1 ≤ n := by omega
  have hnI : (n : Int) ≤ 1000001 := by omega
  obtain ⟨R, hR⟩ : ∃ R, R = codeQ p rest.head? := ⟨_, rfl⟩
  rw [← hR]
  by_cases h1 : n = 1
  · have hr : rest = [] := List.eq_nil_of_length_eq_zero (by omega)
    subst h1
    have ht : btwoL bTwos p rest.head? = none := by rw [hr]; exact btwo_none p none ⟨by simp, by simp⟩
    have CN := Lib.hid (fun h => hR.trans (code_none p rest.head? h ht))
    have CH := Lib.hid (fun lead hl j h => hR.trans (code_here p lead rest.head? hp hl j h ht))
    have hbz := Below.refl w.heap.size w
    have HR := Lib.hid hR
    have HC := Lib.hid hc
    have HN := Lib.hid hn
    clear hR hc hn
    clear hr ht hl
    go_enter Tryz.func113, Tryz.ntmps113
    go_wp2_with fail
    refine (K2.out _).mono ?_
    rintro e w1 ⟨v1, rfl, hr1, hb1⟩
    obtain ⟨a1, cap1, rfl, hc1⟩ := hr1
    have hbw1 := bt hbz hb1
    have hcp1 : w1.cell? ⟨g, o, none⟩ = some (.int .i32 p) := kc hbw1 hc0
    have HC1 := Lib.hid hc1
    have HCP := Lib.hid hcp1
    have HBW := Lib.hid hbw1
    clear hc1 hcp1 hbw1 hb1
    go_wp2_with fail
    go_loopw [8] (fun iv wr => ∃ i : Nat, iv = .int .i64 (i : Int) ∧ i ≤ 5 ∧ Hid (NotIn p i) ∧ Below w1.heap.size w1 wr) (fun iv _ => 5 - (intOf iv).toNat)
    case atStart => exact ⟨0, rfl, by omega, Lib.hid (fun k hk => by omega), Below.refl _ _⟩
    case round =>
      obtain ⟨i, rfl, hi, hN, hbi⟩ := hrel
      rename World => wi
      by_cases hlt : i < 5
      · obtain ⟨lead, hld⟩ := at_some leadsL i hlt
        have hmem := List.mem_of_getElem? hld
        have hlb : 0 ≤ lead ∧ lead ≤ 255 := by
          have : ∀ l ∈ leadsL, 0 ≤ l ∧ l ≤ 255 := by decide
          exact this lead hmem
        obtain ⟨g1, o1, rfl, cellL⟩ := HC1.out i (.int .i64 lead) (by simp [ncells, hld])
        have cellL := kc hbi cellL
        have k3 := fun w => K3.out lead w
        obtain ⟨t1, t2⟩ := rowT_ok lead
        have hch := fun j h => CH.out lead hmem j h
        have hrb := fun j h => (row_bQ p hp lead hmem j h).1
        obtain ⟨T, hT⟩ : ∃ T, T = rowT lead := ⟨_, rfl⟩
        rw [← hT] at k3 t1 t2 hch hrb
        obtain ⟨P, hP⟩ : ∃ P, P = pts (bl T) := ⟨_, rfl⟩
        rw [← hP] at hch hrb
        have hnot : (∀ j : Nat, P[j]? ≠ some p) → NotIn p (i + 1) := by
          intro h k hk l hl j
          by_cases hki : k < i
          · exact hN.out k hki l hl j
          · have e : k = i := by omega
            rw [e, hld] at hl
            rw [← Option.some.inj hl, ← hT, ← hP]
            exact h j
        have HL : Hid ((bl T).length = T.size) := bl_length T
        have HPL : Hid (P.length ≤ T.size) := Lib.hid (by rw [hP, ← HL.out]; exact pts_len _)
        have hsc : (scanF T.size ((bl T).drop 0) 0 0).2 = none := by have := t2; unfold scanL at this; rw [HL.out] at this; rw [List.drop_zero]; exact this
        have hp0 : pts ((bl T).drop 0) = P.drop 0 := by rw [List.drop_zero, List.drop_zero, hP]
        obtain ⟨lb0, lb1⟩ := hlb
        have HLD : Hid ((ncells leadsL)[i]? = some (.int .i64 lead)) := Lib.hid (by simp [ncells, hld])
        have K3' := Lib.hid k3
        have HCH := Lib.hid hch
        have HRB := Lib.hid hrb
        have HTT := Lib.hid hT
        have HP := Lib.hid hP
        have HNOT := Lib.hid hnot
        have HSC := Lib.hid hsc
        have HP0 := Lib.hid hp0
        clear k3 hch hrb hT hP hnot hsc hp0
        clear hld hmem hN t2
        go_wp2_with (go_at_call 169; refine (K3'.out _).mono ?_; rintro e w2 ⟨rfl, rfl⟩)
        go_loopw [10, 11] (fun av cv wr => ∃ (f k m cnt : Nat), av = .int .i64 (k : Int) ∧ cv = .int .i64 (m : Int) ∧ k ≤ T.size ∧ m ≤ k ∧ T.size - k ≤ f ∧ Hid ((scanF f ((bl T).drop k) k cnt).2 = none) ∧ Hid (pts ((bl T).drop k) = P.drop m) ∧ Hid (∀ j, j < m → P[j]? ≠ some p) ∧ Below w1.heap.size w1 wr) (fun av _ _ => T.size - (intOf av).toNat)
        case atStart => exact ⟨T.size, 0, 0, 0, rfl, rfl, Nat.zero_le _, Nat.le_refl _, by omega, HSC, HP0, Lib.hid (fun j h => by omega), hbi⟩
        case round =>
          obtain ⟨f, k, m, cnt, rfl, rfl, hk, hmk, hf, hQ, hPt, hNo, hbq⟩ := hrel
          rename World => wq
          by_cases hlk : k < T.size
          · have hne : (bl T).drop k ≠ [] := drop_ne (by rw [HL.out]; omega)
            obtain ⟨f, rfl⟩ : ∃ q, f = q + 1 := ⟨f - 1, by omega⟩
            have hat := refAt_dec ((bl T).drop k) hne
            have k1 := fun w => K4.out T k w (by omega) hlk
            rw [hat] at k1
            have hb : badDec ((bl T).drop k) = false := by
              cases hb : badDec ((bl T).drop k) with
              | false => rfl
              | true =>
                have := hQ.out
                rw [scanF_bad f _ k _ hne hb] at this
                cases this
            rw [hb] at k1
            simp only [Bool.false_eq_true, if_false] at k1
            have e1 := hQ.out
            rw [scanF_step f _ k _ hne hb, List.drop_drop] at e1
            have e2 := hPt.out
            have hmP : m < P.length := by
              rcases Nat.lt_or_ge m P.length with h | h
              · exact h
              · rw [List.drop_of_length_le h, pts_cons _ hne] at e2
                cases e2
            rw [pts_cons _ hne, List.drop_drop, List.drop_eq_getElem_cons hmP] at e2
            have hdp := dec_pos ((bl T).drop k)
            have hdl := dec_le _ hne
            rw [List.length_drop, HL.out] at hdl
            rcases hd : dec ((bl T).drop k) with ⟨q, j⟩
            rw [hd] at k1 e1 e2 hdp hdl
            simp only at k1 e1 e2 hdp hdl
            obtain ⟨e3, e4⟩ := List.cons.inj e2
            have hPm : P[m]? = some (q : Int) := by rw [List.getElem?_eq_getElem hmP, e3]
            have cellP := kc hbq HCP.out
            have cellL2 : wq.cell? ⟨g1, o1 + i, none⟩ = some (.int .i64 lead) := by
              obtain ⟨g2, o2, e, hx⟩ := HC1.out i (.int .i64 lead) HLD.out
              cases e
              exact kc hbq hx
            by_cases hqp : (q : Int) = p
            · rw [hqp] at hPm k1
              have hm7 := HRB.out m hPm
              have hres := HCH.out m hPm
              have hp63 : (p != 63) = true := by simp; omega
              have hcell' : ∀ w1', Below wq.heap.size wq w1' → w1'.cell? ⟨g, o, none⟩ = some (.int .i32 p) ∧ w1'.cell? ⟨g1, o1 + i, none⟩ = some (.int .i64 lead) := fun w1' hb => ⟨kc hb cellP, kc hb cellL2⟩
              have K1' := Lib.hid k1
              have E3 := Lib.hid e3
              have E4 := Lib.hid e4
              have E1 := Lib.hid e1
              have HCELL := Lib.hid hcell'
              clear k1 e3 e4 e1 hcell'
              clear hat hb hne hQ hd e2 hPm hqp hPt hNo
              by_cases hm63 : m < 63
              · have hb2 : bsecond (m : Int) = 64 + m := by unfold bsecond; rw [if_pos (by omega)]
                rw [hb2] at hres
                have HRES := Lib.hid hres
                clear hres hb2
                go_wp2_with (go_at_call 109; refine (K1'.out _).mono ?_; rintro e w3 ⟨rfl, hb3⟩; obtain ⟨x1, x2⟩ := HCELL.out _ hb3)
                refine bodyPost_ret (v := .tuple #[.int .i64 (lead * 256 + 64 + m), .int .i64 1]) (by simp [results, Tryz.results113, go_sem]) rfl ?_
                exact (show CodePost _ _ _ _ from ⟨by rw [HRES.out]; simp only; rw [Int.add_assoc], bt (HBW.out.trans (hbq.mono HBW.out.size)) hb3⟩)
              · have hb2 : bsecond (m : Int) = 161 + m - 63 := by unfold bsecond; rw [if_neg (by omega)]
                rw [hb2] at hres
                have HRES := Lib.hid hres
                clear hres hb2
                go_wp2_with (go_at_call 109; refine (K1'.out _).mono ?_; rintro e w3 ⟨rfl, hb3⟩; obtain ⟨x1, x2⟩ := HCELL.out _ hb3)
                refine bodyPost_ret (v := .tuple #[.int .i64 (lead * 256 + 161 + m - 63), .int .i64 1]) (by simp [results, Tryz.results113, go_sem]) rfl ?_
                exact (show CodePost _ _ _ _ from ⟨by rw [HRES.out]; simp only; rw [show lead * 256 + (161 + (m : Int) - 63) = lead * 256 + 161 + m - 63 from by omega], bt (HBW.out.trans (hbq.mono HBW.out.size)) hb3⟩)
            · have hNo2 : ∀ j', j' < m + 1 → P[j']? ≠ some p := by
                intro j' hj'
                by_cases h : j' < m
                · exact hNo.out j' h
                · rw [show j' = m from by omega, hPm]
                  intro h'
                  exact hqp (Option.some.inj h')
              have hcell' : ∀ w1', Below wq.heap.size wq w1' → w1'.cell? ⟨g, o, none⟩ = some (.int .i32 p) := fun w1' hb => kc hb cellP
              have K1' := Lib.hid k1
              have E3 := Lib.hid e3
              have E4 := Lib.hid e4
              have E1 := Lib.hid e1
              have HNO := Lib.hid hNo2
              have HCELL := Lib.hid hcell'
              clear k1 e3 e4 e1 hNo2 hcell'
              clear hat hb hne hQ hd e2 hPm hPt hNo
              go_wp2_with (go_at_call 109; refine (K1'.out _).mono ?_; rintro e w3 ⟨rfl, hb3⟩; have x1 := HCELL.out _ hb3)
              go_roundw
              case rel => exact ⟨f, k + j, m + 1, cnt + 1, by go_num, by go_num, by omega, by omega, by omega, E1, E4, HNO, bt hbq hb3⟩
              case measure => simp [intOf]; omega
          · have hall : ∀ j : Nat, P[j]? ≠ some p := by
              intro j
              have e2 := hPt.out
              have hl : P.length ≤ m := by
                rcases Nat.lt_or_ge m P.length with h | h
                · rw [List.drop_of_length_le (by rw [HL.out]; omega), pts_nil, List.drop_eq_getElem_cons h] at e2
                  cases e2
                · exact h
              by_cases hj : j < m
              · exact hNo.out j hj
              · rw [List.getElem?_eq_none (by omega)]; simp
            have HNI := Lib.hid (HNOT.out hall)
            clear hall hPt hNo hQ
            go_wp2
            go_roundw
            case rel => exact ⟨i + 1, by go_num, by omega, HNI, hbq⟩
            case measure => simp [intOf]; omega
      · have hi5 : i = 5 := by omega
        subst hi5
        have hres := CN.out hN.out
        have HRES := Lib.hid hres
        clear hres hN hlt
        go_wp2
        refine bodyPost_ret (v := .tuple #[.int .i64 (-1), .int .i64 0]) (by simp [results, Tryz.results113, go_sem]) rfl ?_
        exact (show CodePost _ _ _ _ from ⟨by rw [HRES.out], HBW.out.trans (hbi.mono HBW.out.size)⟩)
  · cases rest with
    | nil => exact absurd hn h1
    | cons q rest =>
      have hnI2 : ¬ (n : Int) ≤ 1 := by omega
      obtain ⟨g', o', hgo, hc1'⟩ := hc 1 (.int .i32 q) rfl
      cases hgo
      have HRq : Hid (R = codeQ p (some q)) := Lib.hid hR
      have hn2 : (1 : Nat) < n := by omega
      have HC1q := Lib.hid hc1'
      have HC := Lib.hid hc
      have HN := Lib.hid hn
      have HR := Lib.hid hR
      clear hc hn hR
      clear h1 hc1' hl
      go_enter Tryz.func113, Tryz.ntmps113
      go_wp2_with fail
      go_loopw [4] (fun bv wr => ∃ b : Int, bv = .int .i64 b ∧ 64 ≤ b ∧ b ≤ 255 ∧ Hid (∀ c, 64 ≤ c → c < b → twoR 136 c ≠ (p, q)) ∧ Below w.heap.size w wr) (fun bv _ => (255 - intOf bv).toNat)
      case atStart => exact ⟨64, rfl, by omega, by omega, Lib.hid (fun c h1 h2 => by omega), Below.refl _ _⟩
      case round =>
        obtain ⟨b, rfl, hb0, hb1, hQ, hbz⟩ := hrel
        rename World => wb
        have cell0 := kc hbz hc0
        have cell1 := kc hbz HC1q.out
        by_cases hlb : b < 255
        · have k1 := fun w => K1.out b w (by omega) (by omega)
          rcases ht2 : twoR 136 b with ⟨p', q'⟩
          rw [ht2] at k1
          simp only at k1
          by_cases hhit : p' = p ∧ q' = q
          · obtain ⟨rfl, rfl⟩ := hhit
            have hres : R = (34816 + b, 2) := by
              rw [HRq.out]
              unfold codeQ
              rw [two_hit p' q' b (by omega) (by omega) (by omega) ht2]
            have hpB : (p' != 0) = true := by simp; omega
            have K1' := Lib.hid k1
            have HRES := Lib.hid hres
            clear k1 hres
            clear ht2 hQ
            go_wp2_with (go_at_call 167; refine (K1'.out _).mono ?_; rintro e w3 ⟨rfl, rfl⟩)
            refine bodyPost_ret (v := .tuple #[.int .i64 (34816 + b), .int .i64 2]) (by simp [results, Tryz.results113, go_sem]) rfl ?_
            exact (show CodePost _ _ _ _ from ⟨by rw [HRES.out], hbz⟩)
          · have hq : ∀ c, 64 ≤ c → c < b + 1 → twoR 136 c ≠ (p, q) := by
              intro c h1 h2
              by_cases hc : c < b
              · exact hQ.out c h1 hc
              · rw [show c = b from by omega, ht2]
                intro h'
                exact hhit ⟨(Prod.mk.inj h').1, (Prod.mk.inj h').2⟩
            have K1' := Lib.hid k1
            have HQ' := Lib.hid hq
            clear k1 hq
            clear ht2 hQ
            by_cases e1 : p' = p
            · have e2 : ¬ q' = q := fun h => hhit ⟨e1, h⟩
              subst e1
              have hpB : (p' != 0) = true := by simp; omega
              have hqB : (q' == q) = false := by simpa using e2
              clear hhit
              go_wp2_with (go_at_call 167; refine (K1'.out _).mono ?_; rintro e w3 ⟨rfl, rfl⟩)
              go_roundw
              case rel => exact ⟨b + 1, by go_num, by omega, by omega, HQ', hbz⟩
              case measure => simp [intOf]; omega
            · have hqB : (p' == p) = false := by simpa using e1
              clear hhit
              by_cases e0 : p' = 0
              · subst e0
                go_wp2_with (go_at_call 167; refine (K1'.out _).mono ?_; rintro e w3 ⟨rfl, rfl⟩)
                go_roundw
                case rel => exact ⟨b + 1, by go_num, by omega, by omega, HQ', hbz⟩
                case measure => simp [intOf]; omega
              · have hpB : (p' != 0) = true := by simpa using e0
                go_wp2_with (go_at_call 167; refine (K1'.out _).mono ?_; rintro e w3 ⟨rfl, rfl⟩)
                go_roundw
                case rel => exact ⟨b + 1, by go_num, by omega, by omega, HQ', hbz⟩
                case measure => simp [intOf]; omega
        · have ht : btwoL bTwos p (some q) = none := by
            cases hb : btwoL bTwos p (some q) with
            | none => rfl
            | some c =>
              obtain ⟨z1, z2, z3⟩ := two_of p q c hb
              exact absurd z3 (hQ.out c z1 (by omega))
          have CN := Lib.hid (fun h => HRq.out.trans (code_none p (some q) h ht))
          have CH := Lib.hid (fun lead hl j h => HRq.out.trans (code_here p lead (some q) hp hl j h ht))
          clear hQ ht cell1
          go_wp2_with fail
          refine (K2.out _).mono ?_
          rintro e w1 ⟨v1, rfl, hr1, hb1⟩
          obtain ⟨a1, cap1, rfl, hc1⟩ := hr1
          have hbw1 := bt hbz hb1
          have hcp1 : w1.cell? ⟨g, o, none⟩ = some (.int .i32 p) := kc hbw1 hc0
          have HC1 := Lib.hid hc1
          have HCP := Lib.hid hcp1
          have HBW := Lib.hid hbw1
          clear hc1 hcp1 hbw1 hb1
          go_wp2_with fail
          go_loopw [8] (fun iv wr => ∃ i : Nat, iv = .int .i64 (i : Int) ∧ i ≤ 5 ∧ Hid (NotIn p i) ∧ Below w1.heap.size w1 wr) (fun iv _ => 5 - (intOf iv).toNat)
          case atStart => exact ⟨0, rfl, by omega, Lib.hid (fun k hk => by omega), Below.refl _ _⟩
          case round =>
            obtain ⟨i, rfl, hi, hN, hbi⟩ := hrel
            rename World => wi
            by_cases hlt : i < 5
            · obtain ⟨lead, hld⟩ := at_some leadsL i hlt
              have hmem := List.mem_of_getElem? hld
              have hlb : 0 ≤ lead ∧ lead ≤ 255 := by
                have : ∀ l ∈ leadsL, 0 ≤ l ∧ l ≤ 255 := by decide
                exact this lead hmem
              obtain ⟨g1, o1, rfl, cellL⟩ := HC1.out i (.int .i64 lead) (by simp [ncells, hld])
              have cellL := kc hbi cellL
              have k3 := fun w => K3.out lead w
              obtain ⟨t1, t2⟩ := rowT_ok lead
              have hch := fun j h => CH.out lead hmem j h
              have hrb := fun j h => (row_bQ p hp lead hmem j h).1
              obtain ⟨T, hT⟩ : ∃ T, T = rowT lead := ⟨_, rfl⟩
              rw [← hT] at k3 t1 t2 hch hrb
              obtain ⟨P, hP⟩ : ∃ P, P = pts (bl T) := ⟨_, rfl⟩
              rw [← hP] at hch hrb
              have hnot : (∀ j : Nat, P[j]? ≠ some p) → NotIn p (i + 1) := by
                intro h k hk l hl j
                by_cases hki : k < i
                · exact hN.out k hki l hl j
                · have e : k = i := by omega
                  rw [e, hld] at hl
                  rw [← Option.some.inj hl, ← hT, ← hP]
                  exact h j
              have HL : Hid ((bl T).length = T.size) := bl_length T
              have HPL : Hid (P.length ≤ T.size) := Lib.hid (by rw [hP, ← HL.out]; exact pts_len _)
              have hsc : (scanF T.size ((bl T).drop 0) 0 0).2 = none := by have := t2; unfold scanL at this; rw [HL.out] at this; rw [List.drop_zero]; exact this
              have hp0 : pts ((bl T).drop 0) = P.drop 0 := by rw [List.drop_zero, List.drop_zero, hP]
              obtain ⟨lb0, lb1⟩ := hlb
              have HLD : Hid ((ncells leadsL)[i]? = some (.int .i64 lead)) := Lib.hid (by simp [ncells, hld])
              have K3' := Lib.hid k3
              have HCH := Lib.hid hch
              have HRB := Lib.hid hrb
              have HTT := Lib.hid hT
              have HP := Lib.hid hP
              have HNOT := Lib.hid hnot
              have HSC := Lib.hid hsc
              have HP0 := Lib.hid hp0
              clear k3 hch hrb hT hP hnot hsc hp0
              clear hld hmem hN t2
              go_wp2_with (go_at_call 169; refine (K3'.out _).mono ?_; rintro e w2 ⟨rfl, rfl⟩)
              go_loopw [10, 11] (fun av cv wr => ∃ (f k m cnt : Nat), av = .int .i64 (k : Int) ∧ cv = .int .i64 (m : Int) ∧ k ≤ T.size ∧ m ≤ k ∧ T.size - k ≤ f ∧ Hid ((scanF f ((bl T).drop k) k cnt).2 = none) ∧ Hid (pts ((bl T).drop k) = P.drop m) ∧ Hid (∀ j, j < m → P[j]? ≠ some p) ∧ Below w1.heap.size w1 wr) (fun av _ _ => T.size - (intOf av).toNat)
              case atStart => exact ⟨T.size, 0, 0, 0, rfl, rfl, Nat.zero_le _, Nat.le_refl _, by omega, HSC, HP0, Lib.hid (fun j h => by omega), hbi⟩
              case round =>
                obtain ⟨f, k, m, cnt, rfl, rfl, hk, hmk, hf, hQ, hPt, hNo, hbq⟩ := hrel
                rename World => wq
                by_cases hlk : k < T.size
                · have hne : (bl T).drop k ≠ [] := drop_ne (by rw [HL.out]; omega)
                  obtain ⟨f, rfl⟩ : ∃ q, f = q + 1 := ⟨f - 1, by omega⟩
                  have hat := refAt_dec ((bl T).drop k) hne
                  have k1 := fun w => K4.out T k w (by omega) hlk
                  rw [hat] at k1
                  have hb : badDec ((bl T).drop k) = false := by
                    cases hb : badDec ((bl T).drop k) with
                    | false => rfl
                    | true =>
                      have := hQ.out
                      rw [scanF_bad f _ k _ hne hb] at this
                      cases this
                  rw [hb] at k1
                  simp only [Bool.false_eq_true, if_false] at k1
                  have e1 := hQ.out
                  rw [scanF_step f _ k _ hne hb, List.drop_drop] at e1
                  have e2 := hPt.out
                  have hmP : m < P.length := by
                    rcases Nat.lt_or_ge m P.length with h | h
                    · exact h
                    · rw [List.drop_of_length_le h, pts_cons _ hne] at e2
                      cases e2
                  rw [pts_cons _ hne, List.drop_drop, List.drop_eq_getElem_cons hmP] at e2
                  have hdp := dec_pos ((bl T).drop k)
                  have hdl := dec_le _ hne
                  rw [List.length_drop, HL.out] at hdl
                  rcases hd : dec ((bl T).drop k) with ⟨q, j⟩
                  rw [hd] at k1 e1 e2 hdp hdl
                  simp only at k1 e1 e2 hdp hdl
                  obtain ⟨e3, e4⟩ := List.cons.inj e2
                  have hPm : P[m]? = some (q : Int) := by rw [List.getElem?_eq_getElem hmP, e3]
                  have cellP := kc hbq HCP.out
                  have cellL2 : wq.cell? ⟨g1, o1 + i, none⟩ = some (.int .i64 lead) := by
                    obtain ⟨g2, o2, e, hx⟩ := HC1.out i (.int .i64 lead) HLD.out
                    cases e
                    exact kc hbq hx
                  by_cases hqp : (q : Int) = p
                  · rw [hqp] at hPm k1
                    have hm7 := HRB.out m hPm
                    have hres := HCH.out m hPm
                    have hp63 : (p != 63) = true := by simp; omega
                    have hcell' : ∀ w1', Below wq.heap.size wq w1' → w1'.cell? ⟨g, o, none⟩ = some (.int .i32 p) ∧ w1'.cell? ⟨g1, o1 + i, none⟩ = some (.int .i64 lead) := fun w1' hb => ⟨kc hb cellP, kc hb cellL2⟩
                    have K1' := Lib.hid k1
                    have E3 := Lib.hid e3
                    have E4 := Lib.hid e4
                    have E1 := Lib.hid e1
                    have HCELL := Lib.hid hcell'
                    clear k1 e3 e4 e1 hcell'
                    clear hat hb hne hQ hd e2 hPm hqp hPt hNo
                    by_cases hm63 : m < 63
                    · have hb2 : bsecond (m : Int) = 64 + m := by unfold bsecond; rw [if_pos (by omega)]
                      rw [hb2] at hres
                      have HRES := Lib.hid hres
                      clear hres hb2
                      go_wp2_with (go_at_call 109; refine (K1'.out _).mono ?_; rintro e w3 ⟨rfl, hb3⟩; obtain ⟨x1, x2⟩ := HCELL.out _ hb3)
                      refine bodyPost_ret (v := .tuple #[.int .i64 (lead * 256 + 64 + m), .int .i64 1]) (by simp [results, Tryz.results113, go_sem]) rfl ?_
                      exact (show CodePost _ _ _ _ from ⟨by rw [HRES.out]; simp only; rw [Int.add_assoc], bt (HBW.out.trans (hbq.mono HBW.out.size)) hb3⟩)
                    · have hb2 : bsecond (m : Int) = 161 + m - 63 := by unfold bsecond; rw [if_neg (by omega)]
                      rw [hb2] at hres
                      have HRES := Lib.hid hres
                      clear hres hb2
                      go_wp2_with (go_at_call 109; refine (K1'.out _).mono ?_; rintro e w3 ⟨rfl, hb3⟩; obtain ⟨x1, x2⟩ := HCELL.out _ hb3)
                      refine bodyPost_ret (v := .tuple #[.int .i64 (lead * 256 + 161 + m - 63), .int .i64 1]) (by simp [results, Tryz.results113, go_sem]) rfl ?_
                      exact (show CodePost _ _ _ _ from ⟨by rw [HRES.out]; simp only; rw [show lead * 256 + (161 + (m : Int) - 63) = lead * 256 + 161 + m - 63 from by omega], bt (HBW.out.trans (hbq.mono HBW.out.size)) hb3⟩)
                  · have hNo2 : ∀ j', j' < m + 1 → P[j']? ≠ some p := by
                      intro j' hj'
                      by_cases h : j' < m
                      · exact hNo.out j' h
                      · rw [show j' = m from by omega, hPm]
                        intro h'
                        exact hqp (Option.some.inj h')
                    have hcell' : ∀ w1', Below wq.heap.size wq w1' → w1'.cell? ⟨g, o, none⟩ = some (.int .i32 p) := fun w1' hb => kc hb cellP
                    have K1' := Lib.hid k1
                    have E3 := Lib.hid e3
                    have E4 := Lib.hid e4
                    have E1 := Lib.hid e1
                    have HNO := Lib.hid hNo2
                    have HCELL := Lib.hid hcell'
                    clear k1 e3 e4 e1 hNo2 hcell'
                    clear hat hb hne hQ hd e2 hPm hPt hNo
                    go_wp2_with (go_at_call 109; refine (K1'.out _).mono ?_; rintro e w3 ⟨rfl, hb3⟩; have x1 := HCELL.out _ hb3)
                    go_roundw
                    case rel => exact ⟨f, k + j, m + 1, cnt + 1, by go_num, by go_num, by omega, by omega, by omega, E1, E4, HNO, bt hbq hb3⟩
                    case measure => simp [intOf]; omega
                · have hall : ∀ j : Nat, P[j]? ≠ some p := by
                    intro j
                    have e2 := hPt.out
                    have hl : P.length ≤ m := by
                      rcases Nat.lt_or_ge m P.length with h | h
                      · rw [List.drop_of_length_le (by rw [HL.out]; omega), pts_nil, List.drop_eq_getElem_cons h] at e2
                        cases e2
                      · exact h
                    by_cases hj : j < m
                    · exact hNo.out j hj
                    · rw [List.getElem?_eq_none (by omega)]; simp
                  have HNI := Lib.hid (HNOT.out hall)
                  clear hall hPt hNo hQ
                  go_wp2
                  go_roundw
                  case rel => exact ⟨i + 1, by go_num, by omega, HNI, hbq⟩
                  case measure => simp [intOf]; omega
            · have hi5 : i = 5 := by omega
              subst hi5
              have hres := CN.out hN.out
              have HRES := Lib.hid hres
              clear hres hN hlt
              go_wp2
              refine bodyPost_ret (v := .tuple #[.int .i64 (-1), .int .i64 0]) (by simp [results, Tryz.results113, go_sem]) rfl ?_
              exact (show CodePost _ _ _ _ from ⟨by rw [HRES.out], HBW.out.trans (hbi.mono HBW.out.size)⟩)
end Go.Proofs.YtmpndnebjahdjaaGreatDoor
/- Walk: ref09.first: the bytes of the signs with which some begin. -/
namespace Go.Proofs.YtmpndnebjahdjaaGreatDoor
open Go.RowKit
set_option linter.unusedVariables false
set_option linter.unusedSimpArgs false

def codeB (n : Int) : List UInt8 := if n < 0 then [] else bigL n 2
/-- the bytes of one sign in the charsets of two bytes but Big5. -/
noncomputable def twoB (c p : Int) : List UInt8 := if c = 5 then jBytesM p else wBytesM p
noncomputable def first9 (c p : Int) (q : Option Int) : List UInt8 × Int :=
  if p < 128 then ([UInt8.ofNat p.toNat], 1) else if c = 6 then (codeB (codeQ p q).1, (codeQ p q).2) else (twoB c p, if twoB c p = [] then 0 else 1)
def FiPost (r : List UInt8 × Int) (w : World) (e : Ending) (w' : World) : Prop := e = .returned (.tuple #[.string ⟨r.1.toArray⟩, .int .i64 r.2]) ∧ Below w.heap.size w w'
theorem codeQ_bd (p : Int) (q : Option Int) (hp : 128 ≤ p) : ((codeQ p q).1 = -1 ∧ (codeQ p q).2 = 0) ∨ (0 ≤ (codeQ p q).1 ∧ (codeQ p q).1 < 65536 ∧ ((codeQ p q).2 = 1 ∨ (codeQ p q).2 = 2)) := by
  unfold codeQ
  cases hb : btwoL bTwos p q with
  | some c =>
    right
    have hc : 64 ≤ c ∧ c ≤ 254 := by
      cases q with
      | none => rw [btwo_none p none ⟨by simp, by simp⟩] at hb; cases hb
      | some q => obtain ⟨z1, z2, _⟩ := two_of p q c hb; exact ⟨z1, z2⟩
    exact ⟨show 0 ≤ 34816 + c by omega, show 34816 + c < 65536 by omega, .inr rfl⟩
  | none =>
    simp only
    cases hq : bQ p with
    | none => left; exact ⟨rfl, rfl⟩
    | some c =>
      right
      obtain ⟨lead, hl, j, h⟩ := bQ_in p c hq
      obtain ⟨hj, h2⟩ := row_bQ p hp lead hl j h
      rw [hq] at h2
      have hc := Option.some.inj h2
      have hlb : 0 ≤ lead ∧ lead ≤ 255 := by
        have : ∀ l ∈ leadsL, 0 ≤ l ∧ l ≤ 255 := by decide
        exact this lead hl
      have hs : 0 ≤ bsecond (j : Int) ∧ bsecond (j : Int) ≤ 255 := by unfold bsecond; split <;> omega
      exact ⟨show 0 ≤ c by omega, show c < 65536 by omega, .inl rfl⟩
theorem wBytes_code (p : Int) (hs : ¬ (44032 ≤ p ∧ p ≤ 55203)) : wBytesM p = codeB (byteI (otherCodeM p)) := by
  unfold wBytesM
  rw [if_neg hs]
  cases ho : otherCodeM p with
  | none => rfl
  | some c =>
    have := otherCodeM_bd p c ho
    show bigL c 2 = codeB c
    unfold codeB
    rw [if_neg (by omega)]
theorem code9_all (n : Int) (w : World) (h : n = -1 ∨ (0 ≤ n ∧ n < 65536)) : Calls Tryz.prog 114 #[.int .i64 n] w fun e w' => e = .returned (.string ⟨(codeB n).toArray⟩) ∧ Below w.heap.size w w' := by
  rcases h with rfl | ⟨h0, h1⟩
  · exact code9_none w
  · have e : codeB n = bigL n 2 := by unfold codeB; rw [if_neg (by omega)]
    rw [e]
    exact code9_any n w h0 h1
theorem big_empty (n : Int) : (⟨(bigL n 2).toArray⟩ : ByteArray).toList.isEmpty = false := by
  rw [ByteArray.toList_eq]
  show (bigL n 2).isEmpty = false
  cases hb : bigL n 2 with
  | nil => have := bigL_length n 2; rw [hb] at this; cases this
  | cons a l => rfl
theorem isE (l : List UInt8) : (⟨l.toArray⟩ : ByteArray).toList.isEmpty = l.isEmpty := by rw [ByteArray.toList_eq]
set_option maxRecDepth 100000 in
set_option maxHeartbeats 8000000 in
theorem first9_any (c : Int) (v : Value) (p : Int) (rest : List Int) (w : World) (hc : c = 4 ∨ c = 5 ∨ c = 6) (hrow : Row w v (rest.length + 1) (icells (p :: rest))) (hsc : Scal p) (hl : rest.length ≤ 1000000) :
    Calls Tryz.prog 51 #[.int .i64 c, v] w (FiPost (first9 c p rest.head?) w) := by
  have hrow0 := hrow
  obtain ⟨n, hn⟩ : ∃ n, n = rest.length + 1 := ⟨_, rfl⟩
  rw [← hn] at hrow
  obtain ⟨a, cap, rfl, hcc⟩ := hrow
  obtain ⟨g, o, rfl, hc0⟩ := hcc 0 (.int .i32 p) rfl
  have hc0 : w.cell? ⟨g, o, none⟩ = some (.int .i32 p) := hc0
  rw [← hn] at hrow0
  obtain ⟨p0, p1, _⟩ := hsc
  have hn1 : 1 ≤ n := by omega
  by_cases hp : p < 128
  · have e : first9 c p rest.head? = ([UInt8.ofNat p.toNat], 1) := by unfold first9; rw [if_pos hp]
    rw [e]
    obtain ⟨x, hx⟩ := u8_of p p0 (by omega)
    have ex : UInt8.ofNat p.toNat = x := by rw [hx]; simp
    rw [ex]
    subst hx
    have hw : IntKind.u8.wrap (x.toNat : Int) = (x.toNat : Int) := by rw [IntKind.wrap_u8]; have := x.toNat_lt; omega
    have hcv := fun w => conv_one w x
    have HCC := Lib.hid hcc
    have HROW := Lib.hid hrow0
    have HN := Lib.hid hn
    clear hcc hrow0 hn
    clear e ex hc
    go_enter Tryz.func51, Tryz.ntmps51
    go_wp2
    refine bodyPost_ret (v := .tuple #[.string ⟨#[x]⟩, .int .i64 1]) (by simp [results, Tryz.results51, go_sem]) rfl ?_
    exact (show FiPost _ _ _ _ from ⟨rfl, bal (Below.refl _ _) _⟩)
  have hp128 : 128 ≤ p := by omega
  rcases hc with rfl | rfl | rfl
  · have e : first9 4 p rest.head? = (wBytesM p, if wBytesM p = [] then 0 else 1) := by unfold first9 twoB; rw [if_neg hp, if_neg (by decide), if_neg (by decide)]
    rw [e]
    by_cases hs : 44032 ≤ p ∧ p ≤ 55203
    · have eB : wBytesM p = bigL (wCode p) 2 := by unfold wBytesM; rw [if_pos hs]
      rw [eB]
      have hne := big_empty (wCode p)
      have hnn : bigL (wCode p) 2 ≠ [] := by intro h; have := bigL_length (wCode p) 2; rw [h] at this; cases this
      rw [if_neg hnn]
      have k1 := fun w => syllable9_any p w hs.1 hs.2
      obtain ⟨s0, s1⟩ := hs
      obtain ⟨V, hcV⟩ : ∃ V : ByteArray, V = ⟨(bigL (wCode p) 2).toArray⟩ := ⟨_, rfl⟩
      rw [← hcV] at k1 hne
      have HCC := Lib.hid hcc
      have HROW := Lib.hid hrow0
      have HN := Lib.hid hn
      have K1 := Lib.hid k1
      have EB := Lib.hid eB
      have HCV := Lib.hid hcV
      clear hcc hrow0 hn k1 eB hcV
      clear e hnn
      go_enter Tryz.func51, Tryz.ntmps51
      go_wp2_with (go_at_call 116; refine (K1.out _).mono ?_; rintro e w1 ⟨rfl, hb1⟩)
      refine bodyPost_ret (v := .tuple #[.string V, .int .i64 1]) (by simp [results, Tryz.results51, go_sem]) rfl ?_
      exact (show FiPost _ _ _ _ from ⟨by rw [HCV.out], hb1⟩)
    · have eB := wBytes_code p hs
      rw [eB]
      have k1 := fun w => rowCode_any p w (by omega)
      have hbd := otherCodeM_bd p
      obtain ⟨m, hm⟩ : ∃ m, m = byteI (otherCodeM p) := ⟨_, rfl⟩
      have hm1 : m = -1 ∨ (0 ≤ m ∧ m < 65536) := by
        rw [hm]
        cases ho : otherCodeM p with
        | none => exact .inl rfl
        | some c => exact .inr (hbd c ho)
      rw [← hm] at k1 ⊢
      have k2 := fun w => code9_all m w hm1
      have hE := isE (codeB m)
      have hsI : ¬ 44032 ≤ p ∨ ¬ p ≤ 55203 := by omega
      obtain ⟨V, hV⟩ : ∃ V : ByteArray, V = ⟨(codeB m).toArray⟩ := ⟨_, rfl⟩
      rw [← hV] at k2 hE
      by_cases hem : codeB m = []
      · rw [if_pos hem]
        rw [hem] at hE
        have hE2 : V.toList.isEmpty = true := hE
        clear hE
        have eV : (⟨(codeB m).toArray⟩ : ByteArray) = ⟨#[]⟩ := by rw [hem]
        rw [hem]
        have HCC := Lib.hid hcc
        have HROW := Lib.hid hrow0
        have HN := Lib.hid hn
        have K1 := Lib.hid k1
        have K2 := Lib.hid k2
        have EB := Lib.hid eB
        have HV := Lib.hid hV
        have HM := Lib.hid hm
        have HBD := Lib.hid hbd
        have HM1 := Lib.hid hm1
        have HEM := Lib.hid hem
        have EV := Lib.hid eV
        clear hcc hrow0 hn k1 k2 eB hV hm hbd hm1 hem eV
        clear e
        rcases hsI with hsI | hsI
        all_goals
          (try by_cases hs2 : 44032 ≤ p)
        all_goals
          clear hs
          go_enter Tryz.func51, Tryz.ntmps51
          go_wp2_with (first
            | (go_at_call 117; refine (K1.out _).mono ?_; rintro e w1 ⟨rfl, hb1⟩)
            | (go_at_call 114; refine (K2.out _).mono ?_; rintro e w2 ⟨rfl, hb2⟩))
          refine bodyPost_ret (v := .tuple #[.string ⟨#[]⟩, .int .i64 0]) (by simp [results, Tryz.results51, go_sem]) rfl ?_
          exact (show FiPost _ _ _ _ from ⟨rfl, bt hb1 hb2⟩)
      · rw [if_neg hem]
        have hE2 : V.toList.isEmpty = false := by rw [hE]; simpa using hem
        clear hE
        have HCC := Lib.hid hcc
        have HROW := Lib.hid hrow0
        have HN := Lib.hid hn
        have K1 := Lib.hid k1
        have K2 := Lib.hid k2
        have EB := Lib.hid eB
        have HV := Lib.hid hV
        have HM := Lib.hid hm
        have HBD := Lib.hid hbd
        have HM1 := Lib.hid hm1
        have HEM := Lib.hid hem
        clear hcc hrow0 hn k1 k2 eB hV hm hbd hm1 hem
        clear e
        rcases hsI with hsI | hsI
        all_goals
          (try by_cases hs2 : 44032 ≤ p)
        all_goals
          clear hs
          go_enter Tryz.func51, Tryz.ntmps51
          go_wp2_with (first
            | (go_at_call 117; refine (K1.out _).mono ?_; rintro e w1 ⟨rfl, hb1⟩)
            | (go_at_call 114; refine (K2.out _).mono ?_; rintro e w2 ⟨rfl, hb2⟩))
          refine bodyPost_ret (v := .tuple #[.string V, .int .i64 1]) (by simp [results, Tryz.results51, go_sem]) rfl ?_
          exact (show FiPost _ _ _ _ from ⟨by rw [HV.out], bt hb1 hb2⟩)
  · have e : first9 5 p rest.head? = (jBytesM p, if jBytesM p = [] then 0 else 1) := by unfold first9 twoB; rw [if_neg hp, if_neg (by decide), if_pos rfl]
    rw [e]
    obtain ⟨m, hm1, k1, eB⟩ : ∃ m : Int, (m = -1 ∨ (0 ≤ m ∧ m < 65536)) ∧ (∀ w, Calls Tryz.prog 115 #[.int .i32 p] w fun e w' => e = .returned (.int .i64 m) ∧ Below w.heap.size w w') ∧ jBytesM p = codeB m := by
      by_cases hj : hasJ p
      · have hr := codeJ_range p hj
        refine ⟨codeJ p, .inr ⟨by omega, by omega⟩, fun w => refCode_has p w hj, ?_⟩
        unfold jBytesM codeB
        have hj2 := hj
        unfold hasJ at hj2
        rw [if_pos hj2, if_neg (by omega)]
      · refine ⟨-1, .inl rfl, fun w => refCode_none p w (by omega) (by omega) hj, ?_⟩
        unfold jBytesM codeB
        have hj2 := hj
        unfold hasJ at hj2
        rw [if_neg hj2, if_pos (by decide)]
    rw [eB]
    have k2 := fun w => code9_all m w hm1
    have hE := isE (codeB m)
    obtain ⟨V, hV⟩ : ∃ V : ByteArray, V = ⟨(codeB m).toArray⟩ := ⟨_, rfl⟩
    rw [← hV] at k2 hE
    by_cases hem : codeB m = []
    · rw [if_pos hem]
      rw [hem] at hE
      have hE2 : V.toList.isEmpty = true := hE
      clear hE
      rw [hem]
      have HCC := Lib.hid hcc
      have HROW := Lib.hid hrow0
      have HN := Lib.hid hn
      have K1 := Lib.hid k1
      have K2 := Lib.hid k2
      have EB := Lib.hid eB
      have HV := Lib.hid hV
      have HM1 := Lib.hid hm1
      have HEM := Lib.hid hem
      clear hcc hrow0 hn k1 k2 eB hV hm1 hem
      clear e
      go_enter Tryz.func51, Tryz.ntmps51
      go_wp2_with (first
        | (go_at_call 115; refine (K1.out _).mono ?_; rintro e w1 ⟨rfl, hb1⟩)
        | (go_at_call 114; refine (K2.out _).mono ?_; rintro e w2 ⟨rfl, hb2⟩))
      refine bodyPost_ret (v := .tuple #[.string ⟨#[]⟩, .int .i64 0]) (by simp [results, Tryz.results51, go_sem]) rfl ?_
      exact (show FiPost _ _ _ _ from ⟨rfl, bt hb1 hb2⟩)
    · rw [if_neg hem]
      have hE2 : V.toList.isEmpty = false := by rw [hE]; simpa using hem
      clear hE
      have HCC := Lib.hid hcc
      have HROW := Lib.hid hrow0
      have HN := Lib.hid hn
      have K1 := Lib.hid k1
      have K2 := Lib.hid k2
      have EB := Lib.hid eB
      have HV := Lib.hid hV
      have HM1 := Lib.hid hm1
      have HEM := Lib.hid hem
      clear hcc hrow0 hn k1 k2 eB hV hm1 hem
      clear e
      go_enter Tryz.func51, Tryz.ntmps51
      go_wp2_with (first
        | (go_at_call 115; refine (K1.out _).mono ?_; rintro e w1 ⟨rfl, hb1⟩)
        | (go_at_call 114; refine (K2.out _).mono ?_; rintro e w2 ⟨rfl, hb2⟩))
      refine bodyPost_ret (v := .tuple #[.string V, .int .i64 1]) (by simp [results, Tryz.results51, go_sem]) rfl ?_
      exact (show FiPost _ _ _ _ from ⟨by rw [HV.out], bt hb1 hb2⟩)
  · have e : first9 6 p rest.head? = (codeB (codeQ p rest.head?).1, (codeQ p rest.head?).2) := by unfold first9; rw [if_neg hp, if_pos rfl]
    rw [e]
    have hbd := codeQ_bd p rest.head? hp128
    have k1 := fun w hr => code8_any (.slice (some ⟨g, o, none⟩) n cap) p rest w (by rw [← hn]; exact hr) hp128 hl
    have k2 := fun w => code9_all (codeQ p rest.head?).1 w (by omega)
    obtain ⟨X, hX⟩ : ∃ X, X = codeQ p rest.head? := ⟨_, rfl⟩
    rw [← hX] at k1 k2 ⊢
    unfold CodePost at k1
    obtain ⟨V, hV⟩ : ∃ V : ByteArray, V = ⟨(codeB X.1).toArray⟩ := ⟨_, rfl⟩
    rw [← hV] at k2
    have HCC := Lib.hid hcc
    have HROW := Lib.hid hrow0
    have HN := Lib.hid hn
    have K1 := Lib.hid k1
    have K2 := Lib.hid k2
    have HV := Lib.hid hV
    have HX := Lib.hid hX
    have HBD := Lib.hid hbd
    clear hcc hrow0 hn k1 k2 hV hX hbd
    clear e
    go_enter Tryz.func51, Tryz.ntmps51
    go_wp2_with (first
      | (go_at_call 113; refine (K1.out _ HROW.out).mono ?_; rintro e w1 ⟨rfl, hb1⟩)
      | (go_at_call 114; refine (K2.out _).mono ?_; rintro e w2 ⟨rfl, hb2⟩))
    refine bodyPost_ret (v := .tuple #[.string V, .int .i64 X.2]) (by simp [results, Tryz.results51, go_sem]) rfl ?_
    exact (show FiPost _ _ _ _ from ⟨by rw [HV.out], bt hb1 hb2⟩)
end Go.Proofs.YtmpndnebjahdjaaGreatDoor
