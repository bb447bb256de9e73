/- Walks: the reference's weights and scores (layer 10). -/
import Derived.Test.YtogknbpmgflpgaaGreatDoorTm
import Derived.Test.YtogknbpmgflpgaaGreatDoorDt
namespace Go.Proofs.YtogknbpmgflpgaaGreatDoor
open Go.RowKit
set_option linter.unusedVariables false
set_option linter.unusedSimpArgs false

set_option maxHeartbeats 400000 in
theorem small10_any (p : Int) (w : World) : Calls Tryz.prog 198 #[.int .i32 p] w fun e w' => e = .returned (.bool (letterB p)) ∧ w = w' := by
  go_enter Tryz.func198, Tryz.ntmps198
  go_wp2
  all_goals go_ret
  all_goals (refine ⟨ret_b ?_, rfl⟩; unfold letterB; rw [Bool.eq_iff_iff]; simp; omega)
set_option maxHeartbeats 400000 in
theorem capital10_any (p : Int) (w : World) : Calls Tryz.prog 199 #[.int .i32 p] w fun e w' => e = .returned (.bool (capitalB p)) ∧ w = w' := by
  go_enter Tryz.func199, Tryz.ntmps199
  go_wp2
  all_goals go_ret
  all_goals (refine ⟨ret_b ?_, rfl⟩; unfold capitalB; rw [Bool.eq_iff_iff]; simp; omega)
theorem in_anyZ (z : Int) (n : Nat) (hz : z = (n : Int)) (w : World) (hn : n < 11172) :
    Calls Tryz.prog 233 #[.int .i64 z] w fun e w' => e = .returned (.bool (inN n)) ∧ w = w' := by
  subst hz; exact in_any n w hn
set_option maxHeartbeats 2000000 in
theorem weight10_any (c p : Int) (w : World) (h0 : 0 ≤ c) (h1 : c ≤ 6) (hp0 : 0 ≤ p) (hp1 : p ≤ 1114111) : Calls Tryz.prog 197 #[.int .i64 c, .int .i32 p] w fun e w' => e = .returned (.int .i64 (weightM c p)) ∧ w = w' := by
  have k1 := fun w => small10_any p w
  have k2 := fun w => capital10_any p w
  have hm : weightM c p = if p < 128 then plainM p else if c = 0 then latinM p else if c = 1 ∨ c = 2 ∨ c = 3 then russianM p else if c = 4 ∨ c = 5 then koreanM p else chineseM p := rfl
  by_cases hp : p < 128
  · rw [if_pos hp] at hm
    rw [hm]
    clear hm k1 k2
    unfold plainM
    by_cases p7 : p = 127
    · rw [if_neg (by omega), if_pos (by omega)]
      go_enter Tryz.func197, Tryz.ntmps197
      go_wp2
      go_ret
      exact ⟨rfl, rfl⟩
    by_cases p3 : p < 32
    · by_cases p9 : p = 9
      · rw [if_pos (by omega)]
        go_enter Tryz.func197, Tryz.ntmps197
        go_wp2
        go_ret
        exact ⟨rfl, rfl⟩
      by_cases p10 : p = 10
      · rw [if_pos (by omega)]
        go_enter Tryz.func197, Tryz.ntmps197
        go_wp2
        go_ret
        exact ⟨rfl, rfl⟩
      by_cases p13 : p = 13
      · rw [if_pos (by omega)]
        go_enter Tryz.func197, Tryz.ntmps197
        go_wp2
        go_ret
        exact ⟨rfl, rfl⟩
      · rw [if_neg (by omega), if_pos (by omega)]
        have n9 : (p != 9) = true := by simpa using p9
        have n10 : (p != 10) = true := by simpa using p10
        have n13 : (p != 13) = true := by simpa using p13
        go_enter Tryz.func197, Tryz.ntmps197
        go_wp2
        go_ret
        exact ⟨rfl, rfl⟩
    · rw [if_neg (by omega), if_neg (by omega)]
      go_enter Tryz.func197, Tryz.ntmps197
      go_wp2
      go_ret
      exact ⟨rfl, rfl⟩
  · rw [if_neg hp] at hm
    by_cases c0 : c = 0
    · rw [if_pos c0] at hm
      rw [hm]
      subst c0
      clear hm k1 k2
      unfold latinM
      by_cases p1 : p < 160
      · rw [if_pos p1]
        go_enter Tryz.func197, Tryz.ntmps197
        go_wp2
        go_ret
        exact ⟨rfl, rfl⟩
      by_cases p2 : p < 192
      · rw [if_neg p1, if_pos (by omega)]
        go_enter Tryz.func197, Tryz.ntmps197
        go_wp2
        go_ret
        exact ⟨rfl, rfl⟩
      by_cases p3 : p = 215
      · rw [if_neg p1, if_pos (by omega)]
        go_enter Tryz.func197, Tryz.ntmps197
        go_wp2
        go_ret
        exact ⟨rfl, rfl⟩
      by_cases p4 : p = 247
      · rw [if_neg p1, if_pos (by omega)]
        go_enter Tryz.func197, Tryz.ntmps197
        go_wp2
        go_ret
        exact ⟨rfl, rfl⟩
      · rw [if_neg p1, if_neg (by omega)]
        have n3 : (p == 215) = false := by simpa using p3
        have n4 : (p == 247) = false := by simpa using p4
        go_enter Tryz.func197, Tryz.ntmps197
        go_wp2
        go_ret
        exact ⟨rfl, rfl⟩
    rw [if_neg c0] at hm
    by_cases c3 : c = 1 ∨ c = 2 ∨ c = 3
    · rw [if_pos c3] at hm
      have hm2 : weightM c p = if letterB p = true then 4 else if capitalB p = true then 2 else -4 := hm
      rw [hm2]
      clear hm hm2
      generalize letterB p = a at *
      generalize capitalB p = b at *
      have K1 := Lib.hid k1
      have K2 := Lib.hid k2
      clear k1 k2
      have d0 : (c == 0) = false := by simpa using c0
      have d1 : c ≤ 3 := by omega
      clear c3
      cases a <;> cases b
      all_goals (
        go_enter Tryz.func197, Tryz.ntmps197
        go_wp2_with (first
          | (go_at_call 198; refine (K1.out _).mono ?_; rintro e w1 ⟨rfl, rfl⟩)
          | (go_at_call 199; refine (K2.out _).mono ?_; rintro e w1 ⟨rfl, rfl⟩))
        go_ret
        exact ⟨rfl, rfl⟩)
    rw [if_neg c3] at hm
    have d0 : (c == 0) = false := by simpa using c0
    have d3 : 3 < c := by omega
    clear k1 k2
    by_cases c5 : c = 4 ∨ c = 5
    · rw [if_pos c5] at hm
      have d5 : c ≤ 5 := by omega
      clear c5 c3
      by_cases hs : 44032 ≤ p ∧ p ≤ 55203
      · have hm2 : weightM c p = if rankIn p = true then 6 else 2 := by rw [hm]; unfold koreanM; rw [if_pos hs]
        rw [hm2]
        obtain ⟨n, hn⟩ : ∃ n : Nat, p = 44032 + (n : Int) := ⟨(p - 44032).toNat, by omega⟩
        obtain ⟨s0, s1⟩ := hs
        have hn2 : n < 11172 := by omega
        have e1 := rankIn_inN n hn2
        rw [← hn] at e1
        rw [e1]
        have k3 := fun z hz w => in_anyZ z n hz w hn2
        generalize inN n = a at *
        have K3 := Lib.hid k3
        have HN := Lib.hid hn
        have HN2 := Lib.hid hn2
        clear k3 hn hn2
        clear hm hm2 e1
        cases a
        all_goals (
          go_enter Tryz.func197, Tryz.ntmps197
          go_wp2_with (go_at_call 233; refine (K3.out _ (by have := HN.out; omega) _).mono ?_; rintro e w1 ⟨rfl, rfl⟩)
          go_ret
          exact ⟨rfl, rfl⟩)
      · have hm2 : weightM c p = if 12593 ≤ p ∧ p ≤ 12686 then -2 else 1 := by rw [hm]; unfold koreanM; rw [if_neg hs]
        rw [hm2]
        clear hm hm2
        rcases (show p < 12593 ∨ (12593 ≤ p ∧ p ≤ 12686) ∨ (12686 < p ∧ p < 44032) ∨ 55203 < p from by omega) with h | ⟨h, h'⟩ | ⟨h, h'⟩ | h
        · rw [if_neg (by omega)]
          clear hs
          go_enter Tryz.func197, Tryz.ntmps197
          go_wp2
          go_ret
          exact ⟨rfl, rfl⟩
        · rw [if_pos ⟨h, h'⟩]
          clear hs
          go_enter Tryz.func197, Tryz.ntmps197
          go_wp2
          go_ret
          exact ⟨rfl, rfl⟩
        · rw [if_neg (by omega)]
          clear hs
          go_enter Tryz.func197, Tryz.ntmps197
          go_wp2
          go_ret
          exact ⟨rfl, rfl⟩
        · rw [if_neg (by omega)]
          clear hs
          go_enter Tryz.func197, Tryz.ntmps197
          go_wp2
          go_ret
          exact ⟨rfl, rfl⟩
    · rw [if_neg c5] at hm
      rw [hm]
      have d5 : 5 < c := by omega
      clear c5 c3 hm
      go_enter Tryz.func197, Tryz.ntmps197
      go_wp2
      all_goals go_ret
      all_goals (refine ⟨ret_i ?_, rfl⟩; unfold chineseM; (repeat' split) <;> omega)
/-- was the sign ahead a small letter? -/
def prevS (L : List Int) : Nat → Bool
  | 0 => false
  | k + 1 => letterB (L.getD k 0)
set_option maxRecDepth 100000 in
set_option maxHeartbeats 8000000 in
theorem score10_good (c : Int) (b tb : ByteArray) (w : World) (hb : b.size ≤ 1048576) (h0 : 0 ≤ c) (h1 : c ≤ 6) (hd : decT (tokC c) (bl b) = (bl tb, none)) :
    Calls Tryz.prog 161 #[.int .i64 c, .string b] w (ScPost (some (scoreM c (bl tb))) w) := by
  have ht1 := decT_short (short_C c) (bl b)
  rw [hd] at ht1
  simp only at ht1
  rw [bl_length, bl_length] at ht1
  have htl : tb.size ≤ 1073741824 := by omega
  have hv := valid_C c h0 (bl b) (bl tb) hd
  have k1 := fun w => dec9_any c b w hb
  have e9 : dec9V c (bl b) = .tuple #[.string tb, .int .i64 0, .int .i64 0] := by
    unfold dec9V; rw [if_pos ⟨h0, by omega⟩, hd]; rfl
  unfold D9Post at k1
  rw [e9] at k1
  have k2 := fun w => refPoints_any tb w htl
  unfold RPts RPtsS at k2
  rw [hv] at k2
  simp only at k2
  have hPl := pts_len (bl tb)
  rw [bl_length] at hPl
  obtain ⟨M, hM⟩ : ∃ M, M = scoreM c (bl tb) := ⟨_, rfl⟩
  rw [← hM]
  unfold scoreM at hM
  have hPs : ∀ (i : Nat) (p : Int), (pts (bl tb))[i]? = some p → 0 ≤ p ∧ p ≤ 1114111 := fun i p h => by have := (isl_C c h0 (by omega) (bl b) (bl tb) hd).pts p (List.mem_of_getElem? h); unfold Scal at this; omega
  obtain ⟨L, hL⟩ : ∃ L, L = pts (bl tb) := ⟨_, rfl⟩
  rw [← hL] at k2 hPl hM hPs
  obtain ⟨n, hn⟩ : ∃ n, n = L.length := ⟨_, rfl⟩
  rw [← hn] at hPl
  have hnl : n ≤ 1073741824 := by omega
  have K3 := Lib.hid (fun p w a b => weight10_any c p w h0 h1 a b)
  have K1 := Lib.hid k1
  have K2 := Lib.hid k2
  have HM := Lib.hid hM
  have HL := Lib.hid hL
  have HPS := Lib.hid hPs
  have HN := Lib.hid hn
  clear k1 k2 hM hL hPs hn
  clear hd hv e9 ht1 hPl
  go_enter Tryz.func161, Tryz.ntmps161
  go_wp2_with (first
    | (go_at_call 95; refine (K1.out _).mono ?_; rintro e w1 ⟨rfl, hb1⟩)
    | (go_at_call 73; refine (K2.out _).mono ?_; rintro e w2 ⟨⟨v, rfl, hown⟩, hb2⟩))
  have hrow := hown.row
  rw [← HN.out] at hrow
  obtain ⟨a, cap, rfl, hc⟩ := hrow
  have HC := Lib.hid hc
  have hbw2 := bt hb1 hb2
  clear hc hown
  go_wp2_with fail
  go_loopw [11, 12] (fun mv iv wr => ∃ (i : Nat) (m : Int), iv = .int .i64 (i : Int) ∧ mv = .int .i64 m ∧ i ≤ n ∧ -(11 * (i : Int)) ≤ m ∧ m ≤ 11 * (i : Int) ∧ Hid (scoreF c (prevS L i) (L.drop i) m = M) ∧ Below w2.heap.size w2 wr) (fun _ iv _ => n - (intOf iv).toNat)
  case atStart => exact ⟨0, 0, rfl, rfl, Nat.zero_le _, by omega, by omega, Lib.hid HM.out.symm, Below.refl _ _⟩
  case round =>
    obtain ⟨i, m, rfl, rfl, hi, hm0, hm1, hQ, hbel⟩ := hrel
    have hbw : Below w.heap.size w wr := hbw2.trans (hbel.mono hbw2.size)
    by_cases hlt : i < n
    · obtain ⟨p, hp⟩ := at_some L i (by rw [← HN.out]; exact hlt)
      obtain ⟨g, o, rfl, hcell⟩ := HC.out i (.int .i32 p) (by simp [icells, hp])
      have hcell := kc hbel hcell
      obtain ⟨p0, p1⟩ := HPS.out i p hp
      have hdr : L.drop i = p :: L.drop (i + 1) := by
        obtain ⟨h1, h2⟩ := List.getElem?_eq_some_iff.1 hp
        rw [List.drop_eq_getElem_cons h1, h2]
      have hq := hQ.out
      rw [hdr, scoreF_cons] at hq
      have hpv : prevS L (i + 1) = letterB p := by
        show letterB (L.getD i 0) = letterB p
        rw [List.getD_eq_getElem?_getD, hp]; rfl
      rw [← hpv] at hq
      have k3 := fun w => K3.out p w p0 p1
      obtain ⟨wb0, wb1⟩ := weight_bd c p
      generalize weightM c p = W at *
      have k5 := fun w => capital10_any p w
      generalize capitalB p = cb at *
      have i1 : IntKind.i64.wrap (m + W) = m + W := by rw [IntKind.wrap_i64]; omega
      have i2 : IntKind.i64.wrap (m + W - 3) = m + W - 3 := by rw [IntKind.wrap_i64]; omega
      have K3' := Lib.hid k3
      have K5 := Lib.hid k5
      have HPV := Lib.hid hpv
      clear k3 k5 hpv
      clear hdr hQ
      cases i with
      | zero =>
        have e1 : prevS L 0 = false := rfl
        rw [e1] at hq
        simp only [Bool.false_and, Bool.false_eq_true, if_false, Int.sub_zero] at hq
        have HQ := Lib.hid hq
        have hcell : wr.cell? ⟨g, o, none⟩ = some (.int .i32 p) := by simpa using hcell
        clear hq e1 hp
        go_wp2_with (go_at_call 197; refine (K3'.out _).mono ?_; rintro e w3 ⟨rfl, rfl⟩)
        go_roundw
        case rel => exact ⟨1, m + W, rfl, rfl, by omega, by omega, by omega, HQ, hbel⟩
        case measure => simp [intOf]; omega
      | succ k =>
        obtain ⟨q, hq'⟩ := at_some L k (by rw [← HN.out]; omega)
        obtain ⟨g', o', hgo, hcell'⟩ := HC.out k (.int .i32 q) (by simp [icells, hq'])
        cases hgo
        have hcell' := kc hbel hcell'
        have e1 : prevS L (k + 1) = letterB q := by
          show letterB (L.getD k 0) = letterB q
          rw [List.getD_eq_getElem?_getD, hq']; rfl
        rw [e1] at hq
        have k4 := fun w => small10_any q w
        generalize letterB q = sb at *
        have j1 : IntKind.i64.wrap (((k + 1 : Nat) : Int) - 1) = (k : Int) := by rw [IntKind.wrap_i64]; omega
        have j2 : (0 : Int) < ((k + 1 : Nat) : Int) := by omega
        have K4 := Lib.hid k4
        clear k4
        clear e1 hp hq'
        cases sb <;> cases cb
        all_goals
          simp only [Bool.false_and, Bool.true_and, Bool.false_eq_true, if_false, if_true, Int.sub_zero] at hq
          have HQ := Lib.hid hq
          clear hq
          go_wp2_with (first
            | (go_at_call 197; refine (K3'.out _).mono ?_; rintro e w3 ⟨rfl, rfl⟩)
            | (go_at_call 198; refine (K4.out _).mono ?_; rintro e w3 ⟨rfl, rfl⟩)
            | (go_at_call 199; refine (K5.out _).mono ?_; rintro e w3 ⟨rfl, rfl⟩))
          go_roundw
          case rel => exact ⟨k + 1 + 1, _, by go_num, rfl, by omega, by omega, by omega, HQ, hbel⟩
          case measure => simp [intOf]; omega
    · have hi2 : i = n := by omega
      subst hi2
      have e1 := hQ.out
      rw [List.drop_of_length_le (by rw [← HN.out]; exact Nat.le_refl _)] at e1
      have e2 : m = M := by rw [← e1]; cases prevS L i <;> rfl
      clear e1 hQ
      subst e2
      go_wp2
      refine bodyPost_ret (v := .tuple #[.int .i64 m, .bool true]) (by simp [results, Tryz.results161, go_sem]) rfl ?_
      exact (show ScPost _ _ _ _ from ⟨rfl, hbw⟩)
set_option maxHeartbeats 2000000 in
theorem score10_any (c : Int) (b : ByteArray) (w : World) (hb : b.size ≤ 1048576) : Calls Tryz.prog 161 #[.int .i64 c, .string b] w (ScPost (scoreR c (bl b)) w) := by
  by_cases hc : 0 ≤ c ∧ c ≤ 6
  · obtain ⟨h0, h1⟩ := hc
    have e : scoreR c (bl b) = match decT (tokC c) (bl b) with | (t, none) => some (scoreM c t) | (_, some _) => none := if_pos ⟨h0, h1⟩
    rcases hd : decT (tokC c) (bl b) with ⟨t, o⟩
    rw [hd] at e
    cases o with
    | none =>
      simp only at e
      rw [e]
      have ht : t = bl ⟨t.toArray⟩ := by simp [bl]
      rw [ht]
      exact score10_good c b ⟨t.toArray⟩ w hb h0 h1 (by rw [← ht]; exact hd)
    | some k =>
      simp only at e
      rw [e]
      have k1 := fun w => dec9_any c b w hb
      have ht : t = [] := runT_bad _ _ _ _ _ _ hd
      have e9 : dec9V c (bl b) = .tuple #[.string ⟨#[]⟩, .int .i64 2, .int .i64 (k : Nat)] := by
        unfold dec9V; rw [if_pos ⟨h0, by omega⟩, hd, ht]; rfl
      unfold D9Post at k1
      rw [e9] at k1
      have K1 := Lib.hid k1
      clear k1
      clear e hd ht e9
      go_enter Tryz.func161, Tryz.ntmps161
      go_wp2_with (go_at_call 95; refine (K1.out _).mono ?_; rintro e w1 ⟨rfl, hb1⟩)
      refine bodyPost_ret (v := .tuple #[.int .i64 0, .bool false]) (by simp [results, Tryz.results161, go_sem]) rfl ?_
      exact (show ScPost _ _ _ _ from ⟨rfl, hb1⟩)
  · have e : scoreR c (bl b) = none := by unfold scoreR; rw [if_neg hc]
    rw [e]
    clear e
    by_cases hl : c < 0
    · clear hc
      go_enter Tryz.func161, Tryz.ntmps161
      go_wp2
      refine bodyPost_ret (v := .tuple #[.int .i64 0, .bool false]) (by simp [results, Tryz.results161, go_sem]) rfl ?_
      exact (show ScPost _ _ _ _ from ⟨rfl, Below.refl _ _⟩)
    · have h6 : 6 < c := by omega
      clear hc
      go_enter Tryz.func161, Tryz.ntmps161
      go_wp2
      refine bodyPost_ret (v := .tuple #[.int .i64 0, .bool false]) (by simp [results, Tryz.results161, go_sem]) rfl ?_
      exact (show ScPost _ _ _ _ from ⟨rfl, Below.refl _ _⟩)
end Go.Proofs.YtogknbpmgflpgaaGreatDoor
/- Walks: the reference's guess (layer 10), and that it is the program's. -/
namespace Go.Proofs.YtogknbpmgflpgaaGreatDoor
open Go.RowKit
set_option linter.unusedVariables false
set_option linter.unusedSimpArgs false

/-- the greatest score of some charsets. -/
def mostF (S : Int → Option Int) : List Int → Int → Int
  | [], m => m
  | c :: l, m => match S c with
    | some n => if m < n then mostF S l n else mostF S l m
    | none => mostF S l m
/-- the first charset with a score. -/
def firstF (S : Int → Option Int) : List Int → Int → Int
  | [], _ => -1
  | c :: l, m => if S c = some m then c else firstF S l m
def guess10M (S : Int → Option Int) (l : List Int) : Int := if mostF S l 0 = 0 then -1 else firstF S l (mostF S l 0)
theorem most_none {S : Int → Option Int} {c : Int} (h : S c = none) (l : List Int) (m : Int) : mostF S (c :: l) m = mostF S l m := by rw [mostF, h]
theorem most_less {S : Int → Option Int} {c n : Int} (h : S c = some n) (l : List Int) (m : Int) (hl : ¬ m < n) : mostF S (c :: l) m = mostF S l m := by rw [mostF, h]; simp only; rw [if_neg hl]
theorem most_more {S : Int → Option Int} {c n : Int} (h : S c = some n) (l : List Int) (m : Int) (hl : m < n) : mostF S (c :: l) m = mostF S l n := by rw [mostF, h]; simp only; rw [if_pos hl]
theorem most_ge (S : Int → Option Int) : ∀ (l : List Int) (a : Int), a ≤ mostF S l a := by
  intro l
  induction l with
  | nil => intro a; exact Int.le_refl _
  | cons c l ih =>
    intro a
    cases h : S c with
    | none => rw [most_none h]; exact ih a
    | some n =>
      by_cases hl : a < n
      · rw [most_more h _ _ hl]; exact Int.le_trans (by omega) (ih n)
      · rw [most_less h _ _ hl]; exact ih a
theorem guessF_eq (S : Int → Option Int) : ∀ (l : List Int) (a g : Int) (f : Bool), guessF S l (a, g, f) = (mostF S l a, if mostF S l a = a then g else firstF S l (mostF S l a), f || !decide (mostF S l a = a)) := by
  intro l
  induction l with
  | nil => intro a g f; simp [guessF, mostF]
  | cons c l ih =>
    intro a g f
    cases h : S c with
    | none =>
      rw [guessF_none h, ih, most_none h, firstF, h, if_neg (show ¬ (none : Option Int) = some (mostF S l a) from by simp)]
    | some n =>
      by_cases hl : a < n
      · have hg := most_ge S l n
        rw [guessF_more h _ _ _ _ hl, ih, most_more h _ _ hl, firstF, h]
        rw [if_neg (show ¬ mostF S l n = a from by omega), decide_eq_false (show ¬ mostF S l n = a from by omega)]
        by_cases he : mostF S l n = n
        · rw [if_pos he, if_pos (by rw [he])]; simp
        · rw [if_neg he, if_neg (by intro h'; exact he (Option.some.inj h').symm)]; simp
      · have hg := most_ge S l a
        rw [guessF_less h _ _ _ _ hl, ih, most_less h _ _ hl, firstF, h]
        by_cases he : mostF S l a = a
        · rw [if_pos he, if_pos he]
        · rw [if_neg he, if_neg he, if_neg (by intro h'; have := Option.some.inj h'; omega)]
theorem first_has (S : Int → Option Int) : ∀ (l : List Int) (a : Int), mostF S l a ≠ a → S (firstF S l (mostF S l a)) = some (mostF S l a) := by
  intro l
  induction l with
  | nil => intro a h; exact absurd rfl h
  | cons c l ih =>
    intro a hne
    cases h : S c with
    | none => rw [most_none h] at hne ⊢; rw [firstF, h, if_neg (by simp)]; exact ih a hne
    | some n =>
      by_cases hl : a < n
      · rw [most_more h _ _ hl, firstF]
        by_cases he : S c = some (mostF S l n)
        · rw [if_pos he]; exact he
        · rw [if_neg he]
          exact ih n (by intro h'; rw [h'] at he; exact he h)
      · rw [most_less h _ _ hl] at hne ⊢
        rw [firstF]
        by_cases he : S c = some (mostF S l a)
        · rw [if_pos he]; exact he
        · rw [if_neg he]; exact ih a hne
theorem scoreR_in (c n : Int) (l : List UInt8) (h : scoreR c l = some n) : 0 ≤ c ∧ c ≤ 6 := by
  unfold scoreR at h
  split at h
  · assumption
  · cases h
/-- the program's guess by the reference's. -/
def gOk (k : Int) : Bool := decide (0 ≤ k)
theorem guess_eq (b : List UInt8) (l : List Int) : (guessR b l).2 = (if 0 ≤ guess10M (fun c => scoreR c b) l then guess10M (fun c => scoreR c b) l else 0, decide (0 ≤ guess10M (fun c => scoreR c b) l)) ∧ -1 ≤ guess10M (fun c => scoreR c b) l ∧ guess10M (fun c => scoreR c b) l ≤ 6 := by
  unfold guessR
  rw [guessF_eq]
  unfold guess10M
  by_cases hz : mostF (fun c => scoreR c b) l 0 = 0
  · rw [if_pos hz, hz]; simp
  · have h1 := first_has (fun c => scoreR c b) l 0 hz
    obtain ⟨h2, h3⟩ := scoreR_in _ _ _ h1
    rw [if_neg hz, decide_eq_false hz]
    rw [if_neg hz, if_pos h2, decide_eq_true h2]
    exact ⟨rfl, by omega, h3⟩
set_option maxRecDepth 100000 in
set_option maxHeartbeats 4000000 in
theorem guess10_any (b : ByteArray) (v : Value) (L : List Int) (w : World) (hb : b.size ≤ 1048576) (hrow : Row w v L.length (ccells L)) (hl : L.length ≤ 1073741824) :
    Calls Tryz.prog 123 #[.string b, v] w fun e w' => e = .returned (.int .i64 (guess10M (fun c => scoreR c (bl b)) L)) ∧ Below w.heap.size w w' := by
  obtain ⟨S, hS⟩ : ∃ S : Int → Option Int, S = fun c => scoreR c (bl b) := ⟨_, rfl⟩
  rw [← hS]
  have K1 : Hid (∀ c w, Calls Tryz.prog 161 #[.int .i64 c, .string b] w fun e w' => e = .returned (scoreV (S c)) ∧ Below w.heap.size w w') := Lib.hid (fun c w => by rw [hS]; exact score10_any c b w hb)
  obtain ⟨M, hM⟩ : ∃ M, M = mostF S L 0 := ⟨_, rfl⟩
  obtain ⟨G, hG⟩ : ∃ G, G = guess10M S L := ⟨_, rfl⟩
  rw [← hG]
  have hG2 : G = if M = 0 then -1 else firstF S L M := by rw [hG, hM]; rfl
  obtain ⟨n, hn⟩ : ∃ n, n = L.length := ⟨_, rfl⟩
  rw [← hn] at hrow hl
  obtain ⟨a, cap, rfl, hc⟩ := hrow
  have HM := Lib.hid hM
  have HG := Lib.hid hG2
  have HC := Lib.hid hc
  have HN := Lib.hid hn
  clear hM hG2 hc hn
  clear hG hS
  go_enter Tryz.func123, Tryz.ntmps123
  go_wp2_with fail
  go_loopw [5, 6] (fun mv iv wr => ∃ (i : Nat) (m : Int), iv = .int .i64 (i : Int) ∧ mv = .int .i64 m ∧ i ≤ n ∧ Hid (mostF S (L.drop i) m = M) ∧ Below w.heap.size w wr) (fun _ iv _ => n - (intOf iv).toNat)
  case atStart => exact ⟨0, 0, rfl, rfl, Nat.zero_le _, Lib.hid HM.out.symm, Below.refl _ _⟩
  case round =>
    obtain ⟨i, m, rfl, rfl, hi, hQ, hbel⟩ := hrel
    by_cases hlt : i < n
    · obtain ⟨c, hcc⟩ := at_some L i (by rw [← HN.out]; exact hlt)
      obtain ⟨g, o, rfl, hcell⟩ := HC.out i (.int .i64 c) (by simp [ccells, hcc])
      have hcell := kc hbel hcell
      have hdr : L.drop i = c :: L.drop (i + 1) := by
        obtain ⟨h1, h2⟩ := List.getElem?_eq_some_iff.1 hcc
        rw [List.drop_eq_getElem_cons h1, h2]
      have hq := hQ.out
      rw [hdr] at hq
      have k1 := fun w => K1.out c w
      clear hdr hQ hcc
      cases hs : S c with
      | none =>
        rw [most_none hs] at hq
        rw [hs] at k1
        have k1 : ∀ w, Calls Tryz.prog 161 #[.int .i64 c, .string b] w fun e w' => e = .returned (.tuple #[.int .i64 0, .bool false]) ∧ Below w.heap.size w w' := fun w => k1 w
        have K1' := Lib.hid k1
        have HQ := Lib.hid hq
        clear k1 hq
        clear hs
        go_wp2_with (go_at_call 161; refine (K1'.out _).mono ?_; rintro e w1 ⟨rfl, hb1⟩)
        go_roundw
        case rel => exact ⟨i + 1, m, by go_num, rfl, by omega, HQ, bt hbel hb1⟩
        case measure => simp [intOf]; omega
      | some z =>
        rw [hs] at k1
        have k1 : ∀ w, Calls Tryz.prog 161 #[.int .i64 c, .string b] w fun e w' => e = .returned (.tuple #[.int .i64 z, .bool true]) ∧ Below w.heap.size w w' := fun w => k1 w
        by_cases hl' : m < z
        · rw [most_more hs _ _ hl'] at hq
          have K1' := Lib.hid k1
          have HQ := Lib.hid hq
          clear k1 hq
          clear hs
          go_wp2_with (go_at_call 161; refine (K1'.out _).mono ?_; rintro e w1 ⟨rfl, hb1⟩)
          go_roundw
          case rel => exact ⟨i + 1, z, by go_num, rfl, by omega, HQ, bt hbel hb1⟩
          case measure => simp [intOf]; omega
        · rw [most_less hs _ _ hl'] at hq
          have K1' := Lib.hid k1
          have HQ := Lib.hid hq
          clear k1 hq
          clear hs
          go_wp2_with (go_at_call 161; refine (K1'.out _).mono ?_; rintro e w1 ⟨rfl, hb1⟩)
          go_roundw
          case rel => exact ⟨i + 1, m, by go_num, rfl, by omega, HQ, bt hbel hb1⟩
          case measure => simp [intOf]; omega
    · have e1 := hQ.out
      rw [List.drop_of_length_le (by rw [← HN.out]; omega)] at e1
      have e2 : m = M := e1
      clear e1 hQ
      subst e2
      have hin : i = n := by omega
      clear hlt
      subst hin
      by_cases hz : m = 0
      · subst hz
        have hg := HG.out
        rw [if_pos rfl] at hg
        have HG' := Lib.hid hg
        clear hg
        go_wp2
        go_ret
        exact ⟨ret_i HG'.out.symm, hbel⟩
      · have hg := HG.out
        rw [if_neg hz] at hg
        have HG' := Lib.hid hg
        clear hg
        clear HG HM
        have hzB : (m == 0) = false := by simpa using hz
        go_wp2_with fail
        go_loopw [9] (fun iv wr => ∃ (j : Nat), iv = .int .i64 (j : Int) ∧ j ≤ i ∧ Hid (firstF S (L.drop j) m = G) ∧ Below w.heap.size w wr) (fun iv _ => i - (intOf iv).toNat)
        case atStart => exact ⟨0, rfl, Nat.zero_le _, Lib.hid HG'.out.symm, hbel⟩
        case round =>
          obtain ⟨j, rfl, hj, hQ, hbel2⟩ := hrel
          by_cases hlt : j < i
          · obtain ⟨c, hcc⟩ := at_some L j (by rw [← HN.out]; exact hlt)
            obtain ⟨g, o, rfl, hcell⟩ := HC.out j (.int .i64 c) (by simp [ccells, hcc])
            have hcell := kc hbel2 hcell
            have hdr : L.drop j = c :: L.drop (j + 1) := by
              obtain ⟨h1, h2⟩ := List.getElem?_eq_some_iff.1 hcc
              rw [List.drop_eq_getElem_cons h1, h2]
            have hq := hQ.out
            rw [hdr, firstF] at hq
            have k1 := fun w => K1.out c w
            clear hdr hQ hcc
            cases hs : S c with
            | none =>
              rw [hs, if_neg (by simp)] at hq
              rw [hs] at k1
              have k1 : ∀ w, Calls Tryz.prog 161 #[.int .i64 c, .string b] w fun e w' => e = .returned (.tuple #[.int .i64 0, .bool false]) ∧ Below w.heap.size w w' := fun w => k1 w
              have K1' := Lib.hid k1
              have HQ := Lib.hid hq
              clear k1 hq
              clear hs
              go_wp2_with (go_at_call 161; refine (K1'.out _).mono ?_; rintro e w1 ⟨rfl, hb1⟩)
              go_roundw
              case rel => exact ⟨j + 1, by go_num, by omega, HQ, bt hbel2 hb1⟩
              case measure => simp [intOf]; omega
            | some z =>
              rw [hs] at k1
              have k1 : ∀ w, Calls Tryz.prog 161 #[.int .i64 c, .string b] w fun e w' => e = .returned (.tuple #[.int .i64 z, .bool true]) ∧ Below w.heap.size w w' := fun w => k1 w
              by_cases hzm : z = m
              · subst hzm
                rw [hs, if_pos rfl] at hq
                have K1' := Lib.hid k1
                have HQ := Lib.hid hq
                clear k1 hq
                clear hs
                have hcell' : ∀ w1, Below wr.heap.size wr w1 → w1.cell? ⟨g, o + j, none⟩ = some (.int .i64 c) := fun w1 hb => kc hb hcell
                go_wp2_with (go_at_call 161; refine (K1'.out _).mono ?_; rintro e w1 ⟨rfl, hb1⟩; have hcell2 := hcell' _ hb1)
                go_ret
                exact ⟨ret_i HQ.out, bt hbel2 hb1⟩
              · rw [hs, if_neg (by intro h; exact hzm (Option.some.inj h))] at hq
                have K1' := Lib.hid k1
                have HQ := Lib.hid hq
                clear k1 hq
                clear hs
                go_wp2_with (go_at_call 161; refine (K1'.out _).mono ?_; rintro e w1 ⟨rfl, hb1⟩)
                go_roundw
                case rel => exact ⟨j + 1, by go_num, by omega, HQ, bt hbel2 hb1⟩
                case measure => simp [intOf]; omega
          · have e1 := hQ.out
            rw [List.drop_of_length_le (by rw [← HN.out]; omega)] at e1
            have E1 := Lib.hid e1
            clear e1
            clear hQ
            go_wp2
            go_ret
            exact ⟨ret_i (by rw [← E1.out]; rfl), hbel2⟩
def order10 : List Int := [4, 6, 5, 1, 2, 3, 0]
theorem order10_any (w : World) : Calls Tryz.prog 124 #[] w fun e w' => ∃ v, e = .returned v ∧ Row w' v 7 (ccells orderL) ∧ Below w.heap.size w w' := by
  go_enter Tryz.func124, Tryz.ntmps124
  go_wp2
  go_ret
  exact ⟨_, rfl, row_lits w #[.int .i64 4, .int .i64 6, .int .i64 5, .int .i64 1, .int .i64 2, .int .i64 3, .int .i64 0] 3, bal (Below.refl _ _) _⟩
end Go.Proofs.YtogknbpmgflpgaaGreatDoor
