/- Walks: the reference's guess (layer 10), and that it is the program's. -/
import Derived.Test.YtbijjomknbnmfaaGreatDoorRo
namespace Go.Proofs.YtbijjomknbnmfaaGreatDoor
open Go.RowKit
set_option linter.unusedVariables false
set_option linter.unusedSimpArgs false

/-- the greatest score of some charsets. -/
def mostF (S : Int → Option Int) : List Int → Int → Int
  | [], m => m
  | c :: l, m => match S c with
    | some n => if m < n then mostF S l n else mostF S l m
    | none => mostF S l m
/-- the first charset with a score. -/
def firstF (S : Int → Option Int) : List Int → Int → Int
  | [], _ => -1
  | c :: l, m => if S c = some m then c else firstF S l m
def guess10M (S : Int → Option Int) (l : List Int) : Int := if mostF S l 0 = 0 then -1 else firstF S l (mostF S l 0)
theorem most_none {S : Int → Option Int} {c : Int} (h : S c = none) (l : List Int) (m : Int) : mostF S (c :: l) m = mostF S l m := by rw [mostF, h]
theorem most_less {S : Int → Option Int} {c n : Int} (h : S c = some n) (l : List Int) (m : Int) (hl : ¬ m < n) : mostF S (c :: l) m = mostF S l m := by rw [mostF, h]; simp only; rw [if_neg hl]
theorem most_more {S : Int → Option Int} {c n : Int} (h : S c = some n) (l : List Int) (m : Int) (hl : m < n) : mostF S (c :: l) m = mostF S l n := by rw [mostF, h]; simp only; rw [if_pos hl]
theorem most_ge (S : Int → Option Int) : ∀ (l : List Int) (a : Int), a ≤ mostF S l a := by
  intro l
  induction l with
  | nil => intro a; exact Int.le_refl _
  | cons c l ih =>
    intro a
    cases h : S c with
    | none => rw [most_none h]; exact ih a
    | some n =>
      by_cases hl : a < n
      · rw [most_more h _ _ hl]; exact Int.le_trans (by omega) (ih n)
      · rw [most_less h _ _ hl]; exact ih a
theorem guessF_eq (S : Int → Option Int) : ∀ (l : List Int) (a g : Int) (f : Bool), guessF S l (a, g, f) = (mostF S l a, if mostF S l a = a then g else firstF S l (mostF S l a), f || !decide (mostF S l a = a)) := by
  intro l
  induction l with
  | nil => intro a g f; simp [guessF, mostF]
  | cons c l ih =>
    intro a g f
    cases h : S c with
    | none =>
      rw [guessF_none h, ih, most_none h, firstF, h, if_neg (show ¬ (none : Option Int) = some (mostF S l a) from by simp)]
    | some n =>
      by_cases hl : a < n
      · have hg := most_ge S l n
        rw [guessF_more h _ _ _ _ hl, ih, most_more h _ _ hl, firstF, h]
        rw [if_neg (show ¬ mostF S l n = a from by omega), decide_eq_false (show ¬ mostF S l n = a from by omega)]
        by_cases he : mostF S l n = n
        · rw [if_pos he, if_pos (by rw [he])]; simp
        · rw [if_neg he, if_neg (by intro h'; exact he (Option.some.inj h').symm)]; simp
      · have hg := most_ge S l a
        rw [guessF_less h _ _ _ _ hl, ih, most_less h _ _ hl, firstF, h]
        by_cases he : mostF S l a = a
        · rw [if_pos he, if_pos he]
        · rw [if_neg he, if_neg he, if_neg (by intro h'; have := Option.some.inj h'; omega)]
theorem first_has (S : Int → Option Int) : ∀ (l : List Int) (a : Int), mostF S l a ≠ a → S (firstF S l (mostF S l a)) = some (mostF S l a) := by
  intro l
  induction l with
  | nil => intro a h; exact absurd rfl h
  | cons c l ih =>
    intro a hne
    cases h : S c with
    | none => rw [most_none h] at hne ⊢; rw [firstF, h, if_neg (by simp)]; exact ih a hne
    | some n =>
      by_cases hl : a < n
      · rw [most_more h _ _ hl, firstF]
        by_cases he : S c = some (mostF S l n)
        · rw [if_pos he]; exact he
        · rw [if_neg he]
          exact ih n (by intro h'; rw [h'] at he; exact he h)
      · rw [most_less h _ _ hl] at hne ⊢
        rw [firstF]
        by_cases he : S c = some (mostF S l a)
        · rw [if_pos he]; exact he
        · rw [if_neg he]; exact ih a hne
theorem scoreR_in (c n : Int) (l : List UInt8) (h : scoreR c l = some n) : 0 ≤ c ∧ c ≤ 6 := by
  unfold scoreR at h
  split at h
  · assumption
  · cases h
/-- the program's guess by the reference's. -/
def gOk (k : Int) : Bool := decide (0 ≤ k)
theorem guess_eq (b : List UInt8) (l : List Int) : (guessR b l).2 = (if 0 ≤ guess10M (fun c => scoreR c b) l then guess10M (fun c => scoreR c b) l else 0, decide (0 ≤ guess10M (fun c => scoreR c b) l)) ∧ -1 ≤ guess10M (fun c => scoreR c b) l ∧ guess10M (fun c => scoreR c b) l ≤ 6 := by
  unfold guessR
  rw [guessF_eq]
  unfold guess10M
  by_cases hz : mostF (fun c => scoreR c b) l 0 = 0
  · rw [if_pos hz, hz]; simp
  · have h1 := first_has (fun c => scoreR c b) l 0 hz
    obtain ⟨h2, h3⟩ := scoreR_in _ _ _ h1
    rw [if_neg hz, decide_eq_false hz]
    rw [if_neg hz, if_pos h2, decide_eq_true h2]
    exact ⟨rfl, by omega, h3⟩
set_option maxRecDepth 100000 in
set_option maxHeartbeats 4000000 in
theorem guess10_any (b : ByteArray) (v : Value) (L : List Int) (w : World) (hb : b.size ≤ 1048576) (hrow : Row w v L.length (ccells L)) (hl : L.length ≤ 1073741824) :
    Calls Tryz.prog 30 #[.string b, v] w fun e w' => e = .returned (.int .i64 (guess10M (fun c => scoreR c (bl b)) L)) ∧ Below w.heap.size w w' := by
  obtain ⟨S, hS⟩ : ∃ S : Int → Option Int, S = fun c => scoreR c (bl b) := ⟨_, rfl⟩
  rw [← hS]
  have K1 : Hid (∀ c w, Calls Tryz.prog 28 #[.int .i64 c, .string b] w fun e w' => e = .returned (scoreV (S c)) ∧ Below w.heap.size w w') := Lib.hid (fun c w => by rw [hS]; exact score10_any c b w hb)
  obtain ⟨M, hM⟩ : ∃ M, M = mostF S L 0 := ⟨_, rfl⟩
  obtain ⟨G, hG⟩ : ∃ G, G = guess10M S L := ⟨_, rfl⟩
  rw [← hG]
  have hG2 : G = if M = 0 then -1 else firstF S L M := by rw [hG, hM]; rfl
  obtain ⟨n, hn⟩ : ∃ n, n = L.length := ⟨_, rfl⟩
  rw [← hn] at hrow hl
  obtain ⟨a, cap, rfl, hc⟩ := hrow
  have HM := Lib.hid hM
  have HG := Lib.hid hG2
  have HC := Lib.hid hc
  have HN := Lib.hid hn
  clear hM hG2 hc hn
  clear hG hS
  go_enter Tryz.func30, Tryz.ntmps30
  go_wp2_with fail
  go_loopw [5, 6] (fun mv iv wr => ∃ (i : Nat) (m : Int), iv = .int .i64 (i : Int) ∧ mv = .int .i64 m ∧ i ≤ n ∧ Hid (mostF S (L.drop i) m = M) ∧ Below w.heap.size w wr) (fun _ iv _ => n - (intOf iv).toNat)
  case atStart => exact ⟨0, 0, rfl, rfl, Nat.zero_le _, Lib.hid HM.out.symm, Below.refl _ _⟩
  case round =>
    obtain ⟨i, m, rfl, rfl, hi, hQ, hbel⟩ := hrel
    by_cases hlt : i < n
    · obtain ⟨c, hcc⟩ := at_some L i (by rw [← HN.out]; exact hlt)
      obtain ⟨g, o, rfl, hcell⟩ := HC.out i (.int .i64 c) (by simp [ccells, hcc])
      have hcell := kc hbel hcell
      have hdr : L.drop i = c :: L.drop (i + 1) := by
        obtain ⟨h1, h2⟩ := List.getElem?_eq_some_iff.1 hcc
        rw [List.drop_eq_getElem_cons h1, h2]
      have hq := hQ.out
      rw [hdr] at hq
      have k1 := fun w => K1.out c w
      clear hdr hQ hcc
      cases hs : S c with
      | none =>
        rw [most_none hs] at hq
        rw [hs] at k1
        have k1 : ∀ w, Calls Tryz.prog 28 #[.int .i64 c, .string b] w fun e w' => e = .returned (.tuple #[.int .i64 0, .bool false]) ∧ Below w.heap.size w w' := fun w => k1 w
        have K1' := Lib.hid k1
        have HQ := Lib.hid hq
        clear k1 hq
        clear hs
        go_wp2_with (go_at_call 28; refine (K1'.out _).mono ?_; rintro e w1 ⟨rfl, hb1⟩)
        go_roundw
        case rel => exact ⟨i + 1, m, by go_num, rfl, by omega, HQ, bt hbel hb1⟩
        case measure => simp [intOf]; omega
      | some z =>
        rw [hs] at k1
        have k1 : ∀ w, Calls Tryz.prog 28 #[.int .i64 c, .string b] w fun e w' => e = .returned (.tuple #[.int .i64 z, .bool true]) ∧ Below w.heap.size w w' := fun w => k1 w
        by_cases hl' : m < z
        · rw [most_more hs _ _ hl'] at hq
          have K1' := Lib.hid k1
          have HQ := Lib.hid hq
          clear k1 hq
          clear hs
          go_wp2_with (go_at_call 28; refine (K1'.out _).mono ?_; rintro e w1 ⟨rfl, hb1⟩)
          go_roundw
          case rel => exact ⟨i + 1, z, by go_num, rfl, by omega, HQ, bt hbel hb1⟩
          case measure => simp [intOf]; omega
        · rw [most_less hs _ _ hl'] at hq
          have K1' := Lib.hid k1
          have HQ := Lib.hid hq
          clear k1 hq
          clear hs
          go_wp2_with (go_at_call 28; refine (K1'.out _).mono ?_; rintro e w1 ⟨rfl, hb1⟩)
          go_roundw
          case rel => exact ⟨i + 1, m, by go_num, rfl, by omega, HQ, bt hbel hb1⟩
          case measure => simp [intOf]; omega
    · have e1 := hQ.out
      rw [List.drop_of_length_le (by rw [← HN.out]; omega)] at e1
      have e2 : m = M := e1
      clear e1 hQ
      subst e2
      have hin : i = n := by omega
      clear hlt
      subst hin
      by_cases hz : m = 0
      · subst hz
        have hg := HG.out
        rw [if_pos rfl] at hg
        have HG' := Lib.hid hg
        clear hg
        go_wp2
        go_ret
        exact ⟨ret_i HG'.out.symm, hbel⟩
      · have hg := HG.out
        rw [if_neg hz] at hg
        have HG' := Lib.hid hg
        clear hg
        clear HG HM
        have hzB : (m == 0) = false := by simpa using hz
        go_wp2_with fail
        go_loopw [9] (fun iv wr => ∃ (j : Nat), iv = .int .i64 (j : Int) ∧ j ≤ i ∧ Hid (firstF S (L.drop j) m = G) ∧ Below w.heap.size w wr) (fun iv _ => i - (intOf iv).toNat)
        case atStart => exact ⟨0, rfl, Nat.zero_le _, Lib.hid HG'.out.symm, hbel⟩
        case round =>
          obtain ⟨j, rfl, hj, hQ, hbel2⟩ := hrel
          by_cases hlt : j < i
          · obtain ⟨c, hcc⟩ := at_some L j (by rw [← HN.out]; exact hlt)
            obtain ⟨g, o, rfl, hcell⟩ := HC.out j (.int .i64 c) (by simp [ccells, hcc])
            have hcell := kc hbel2 hcell
            have hdr : L.drop j = c :: L.drop (j + 1) := by
              obtain ⟨h1, h2⟩ := List.getElem?_eq_some_iff.1 hcc
              rw [List.drop_eq_getElem_cons h1, h2]
            have hq := hQ.out
            rw [hdr, firstF] at hq
            have k1 := fun w => K1.out c w
            clear hdr hQ hcc
            cases hs : S c with
            | none =>
              rw [hs, if_neg (by simp)] at hq
              rw [hs] at k1
              have k1 : ∀ w, Calls Tryz.prog 28 #[.int .i64 c, .string b] w fun e w' => e = .returned (.tuple #[.int .i64 0, .bool false]) ∧ Below w.heap.size w w' := fun w => k1 w
              have K1' := Lib.hid k1
              have HQ := Lib.hid hq
              clear k1 hq
              clear hs
              go_wp2_with (go_at_call 28; refine (K1'.out _).mono ?_; rintro e w1 ⟨rfl, hb1⟩)
              go_roundw
              case rel => exact ⟨j + 1, by go_num, by omega, HQ, bt hbel2 hb1⟩
              case measure => simp [intOf]; omega
            | some z =>
              rw [hs] at k1
              have k1 : ∀ w, Calls Tryz.prog 28 #[.int .i64 c, .string b] w fun e w' => e = .returned (.tuple #[.int .i64 z, .bool true]) ∧ Below w.heap.size w w' := fun w => k1 w
              by_cases hzm : z = m
              · subst hzm
                rw [hs, if_pos rfl] at hq
                have K1' := Lib.hid k1
                have HQ := Lib.hid hq
                clear k1 hq
                clear hs
                have hcell' : ∀ w1, Below wr.heap.size wr w1 → w1.cell? ⟨g, o + j, none⟩ = some (.int .i64 c) := fun w1 hb => kc hb hcell
                go_wp2_with (go_at_call 28; refine (K1'.out _).mono ?_; rintro e w1 ⟨rfl, hb1⟩; have hcell2 := hcell' _ hb1)
                go_ret
                exact ⟨ret_i HQ.out, bt hbel2 hb1⟩
              · rw [hs, if_neg (by intro h; exact hzm (Option.some.inj h))] at hq
                have K1' := Lib.hid k1
                have HQ := Lib.hid hq
                clear k1 hq
                clear hs
                go_wp2_with (go_at_call 28; refine (K1'.out _).mono ?_; rintro e w1 ⟨rfl, hb1⟩)
                go_roundw
                case rel => exact ⟨j + 1, by go_num, by omega, HQ, bt hbel2 hb1⟩
                case measure => simp [intOf]; omega
          · have e1 := hQ.out
            rw [List.drop_of_length_le (by rw [← HN.out]; omega)] at e1
            have E1 := Lib.hid e1
            clear e1
            clear hQ
            go_wp2
            go_ret
            exact ⟨ret_i (by rw [← E1.out]; rfl), hbel2⟩
def order10 : List Int := [4, 6, 5, 1, 2, 3, 0]
theorem order10_any (w : World) : Calls Tryz.prog 32 #[] w fun e w' => ∃ v, e = .returned v ∧ Row w' v 7 (ccells orderL) ∧ Below w.heap.size w w' := by
  go_enter Tryz.func32, Tryz.ntmps32
  go_wp2
  go_ret
  exact ⟨_, rfl, row_lits w #[.int .i64 4, .int .i64 6, .int .i64 5, .int .i64 1, .int .i64 2, .int .i64 3, .int .i64 0] 3, bal (Below.refl _ _) _⟩
end Go.Proofs.YtbijjomknbnmfaaGreatDoor
