/- Walks: wansung.find, otherCode, Bytes of any sign. -/
import Derived.Test.YtmpndnebjahdjaaGreatDoorBj
import Derived.Test.YtmpndnebjahdjaaGreatDoorWb
namespace Go.Proofs.YtmpndnebjahdjaaGreatDoor
open Go.RowKit
set_option linter.unusedVariables false
set_option linter.unusedSimpArgs false

set_option maxRecDepth 100000 in
set_option maxHeartbeats 2000000 in
theorem wfind_any (s : ByteArray) (p : Int) (w : World) (hT : TW w) (hs : s.size ≤ 100000) (h0 : -2147483648 ≤ p) (h1 : p ≤ 2147483647) :
    Calls Tryz.prog 208 #[.string s, .int .i32 p] w fun e w' => e = .returned (.int .i64 (findM (bl s) p)) ∧ Below w.heap.size w w' := by
  by_cases hp : p < 0 ∨ 65535 < p
  · have hm : findM (bl s) p = -1 := by unfold findM; rw [if_pos hp]
    rw [hm]
    clear hm
    rcases hp with hp | hp
    · go_enter Tryz.func208, Tryz.ntmps208
      go_wp2_with fail
      go_ret
      exact ⟨rfl, Below.refl _ _⟩
    · go_enter Tryz.func208, Tryz.ntmps208
      go_wp2_with fail
      go_ret
      exact ⟨rfl, Below.refl _ _⟩
  · obtain ⟨n, rfl⟩ := Int.eq_ofNat_of_zero_le (show 0 ≤ p from by omega)
    have hn : n < 65536 := by omega
    have hM : findM (bl s) n = if Lib.index (bl s) (hex5 n) < 0 then -1 else Lib.index (bl s) (hex5 n) / 5 := by
      unfold findM; rw [if_neg hp, Int.toNat_natCast]
    have hle := index_len (bl s) (hex5 n)
    rw [bl_length] at hle
    generalize findM (bl s) n = R at *
    have HM0 := Lib.hid hM
    have HLE := Lib.hid hle
    clear hM hle
    have e1 : bits .and .i32 ((n : Int) / 256) 15 = (n : Int) / 256 % 16 := i32_and15 _ (by omega) (by omega)
    have e2 : bits .and .i32 ((n : Int) / 16) 15 = (n : Int) / 16 % 16 := i32_and15 _ (by omega) (by omega)
    have e3 : bits .and .i32 (n : Int) 15 = (n : Int) % 16 := i32_and15 _ (by omega) (by omega)
    have x0 := hexD_at (n / 4096) (by omega)
    have x1 := hexD_at (n / 256 % 16) (by omega)
    have x2 := hexD_at (n / 16 % 16) (by omega)
    have x3 := hexD_at (n % 16) (by omega)
    have t0 : ((n : Int) / 4096).toNat = n / 4096 := by omega
    have t1 : ((n : Int) / 256 % 16).toNat = n / 256 % 16 := by omega
    have t2 : ((n : Int) / 16 % 16).toNat = n / 16 % 16 := by omega
    have t3 : ((n : Int) % 16).toNat = n % 16 := by omega
    have y0 : (0 : Int) ≤ (n : Int) / 4096 ∧ (n : Int) / 4096 < 16 := by omega
    have y1 : (0 : Int) ≤ (n : Int) / 256 % 16 ∧ (n : Int) / 256 % 16 < 16 := by omega
    have y2 : (0 : Int) ≤ (n : Int) / 16 % 16 ∧ (n : Int) / 16 % 16 < 16 := by omega
    have y3 : (0 : Int) ≤ (n : Int) % 16 ∧ (n : Int) % 16 < 16 := by omega
    go_enter Tryz.func208, Tryz.ntmps208
    go_wp2_with fail
    go_region
    have hO : Own (w.alloc (.cells #[.int .u8 ((hexD (n / 4096)).toNat : Int), .int .u8 ((hexD (n / 256 % 16)).toNat : Int), .int .u8 ((hexD (n / 16 % 16)).toNat : Int), .int .u8 ((hexD (n % 16)).toNat : Int), .int .u8 32] 5))
        w.heap.size (.slice (some ⟨w.heap.size, 0, none⟩) 5 5) (hex5 n) :=
      ⟨rfl, .inr ⟨w.heap.size, 5, _, rfl, Nat.le_refl _, heap_alloc_new _ _, Nat.le_refl _, by decide, rfl, rfl⟩⟩
    have hcv := conv_Own hO.drew
    have hTW := (hT.alloc (.cells #[.int .u8 ((hexD (n / 4096)).toNat : Int), .int .u8 ((hexD (n / 256 % 16)).toNat : Int), .int .u8 ((hexD (n / 16 % 16)).toNat : Int), .int .u8 ((hexD (n % 16)).toNat : Int), .int .u8 32] 5))
    have hbel : Below w.heap.size w (w.alloc (.cells #[.int .u8 ((hexD (n / 4096)).toNat : Int), .int .u8 ((hexD (n / 256 % 16)).toNat : Int), .int .u8 ((hexD (n / 16 % 16)).toNat : Int), .int .u8 ((hexD (n % 16)).toNat : Int), .int .u8 32] 5)) := (Below.refl _ _).alloc (Nat.le_refl _) _
    clear hO x0 x1 x2 x3 t0 t1 t2 t3 y0 y1 y2 y3 e1 e2 e3 hT
    generalize w.alloc (.cells #[.int .u8 ((hexD (n / 4096)).toNat : Int), .int .u8 ((hexD (n / 256 % 16)).toNat : Int), .int .u8 ((hexD (n / 16 % 16)).toNat : Int), .int .u8 ((hexD (n % 16)).toNat : Int), .int .u8 32] 5) = W at *
    obtain ⟨m, hm⟩ := hTW.ml
    have c1 := fun w hm => Tryz.strings_Index s ⟨(hex5 n).toArray⟩ m w (by omega) hm
    have hM := HM0.out
    have hle := HLE.out
    have c1' : ∀ w, w.cell? ⟨2, 0, none⟩ = some (.int .i64 m) → Calls Tryz.prog 212 #[.string s, .string ⟨(hex5 n).toArray⟩] w fun e w' => e = .returned (.int .i64 (Lib.index (bl s) (hex5 n))) ∧ w' = w := c1
    clear c1 hp HM0 HLE
    generalize Lib.index (bl s) (hex5 n) = i at *
    have C1 := Lib.hid c1'
    have HM := Lib.hid hM
    have HW := Lib.hid hTW
    clear c1' hM hTW
    by_cases hi : i < 0
    · have hM := HM.out
      rw [if_pos hi] at hM
      have HR := Lib.hid hM
      clear hM HM
      go_wp2_with (go_at_call 212; refine (C1.out W.drew hm).mono ?_; rintro e w1 ⟨rfl, rfl⟩)
      go_ret
      exact ⟨by rw [HR.out]; rfl, hbel.drew⟩
    · have hM := HM.out
      rw [if_neg hi] at hM
      have HR := Lib.hid hM
      clear hM HM
      obtain ⟨j, rfl⟩ := Int.eq_ofNat_of_zero_le (show 0 ≤ i from by omega)
      go_wp2_with (go_at_call 212; refine (C1.out W.drew hm).mono ?_; rintro e w1 ⟨rfl, rfl⟩)
      go_ret
      exact ⟨by rw [HR.out]; rfl, hbel.drew⟩

/-- the code of a sign in the rows that are listed, from a row on. -/
noncomputable def ocRows (p : Int) : Nat → Int → Option Int
  | 0, _ => none
  | f + 1, lead => if 0 ≤ findM (bl (wRowL lead)) p then some (lead * 256 + 161 + findM (bl (wRowL lead)) p) else ocRows p f (lead + 1)
def inTo (p : Int) (s : Int × Int × Int) : Bool := decide (s.2.1 ≤ p ∧ p - s.2.1 < s.2.2)
noncomputable def otherCodeM (p : Int) : Option Int := match ocRows p 6 161 with
  | some c => some c
  | none => (wSpans.find? (inTo p)).map fun s => s.1 + (p - s.2.1)
def ocV : Option Int → Value
  | some c => .tuple #[.int .i64 c, .bool true]
  | none => .tuple #[.int .i64 0, .bool false]
def OcPost (r : Option Int) (w : World) (e : Ending) (w' : World) : Prop := e = .returned (ocV r) ∧ Below w.heap.size w w'
theorem ocRows_bd (p : Int) : ∀ (f : Nat) (lead c : Int), 161 ≤ lead → lead + f ≤ 167 → ocRows p f lead = some c → 0 ≤ c ∧ c < 65536 := by
  intro f
  induction f with
  | zero => intro lead c _ _ h; cases h
  | succ f ih =>
    intro lead c h0 h1 h
    rw [ocRows] at h
    have hb := (wRowL_hex lead).2
    have hf := findM_bd (wRowL lead) p
    split at h
    · have := Option.some.inj h; omega
    · exact ih (lead + 1) c (by omega) (by omega) h
theorem otherCodeM_bd (p c : Int) (h : otherCodeM p = some c) : 0 ≤ c ∧ c < 65536 := by
  unfold otherCodeM at h
  cases hr : ocRows p 6 161 with
  | some d => rw [hr] at h; simp only at h; rw [← Option.some.inj h]; exact ocRows_bd p 6 161 d (by omega) (by omega) hr
  | none =>
    rw [hr] at h
    simp only [Option.map_eq_some_iff] at h
    obtain ⟨s, hs, rfl⟩ := h
    have hb := wSpans_bd s (List.mem_of_find?_eq_some hs)
    have hi := List.find?_some hs
    unfold inTo at hi
    simp only [decide_eq_true_eq] at hi
    have : s.1 + s.2.2 ≤ 44274 := by
      have : ∀ s ∈ wSpans, s.1 + s.2.2 ≤ 44274 := by decide
      exact this s (List.mem_of_find?_eq_some hs)
    omega
set_option maxRecDepth 100000 in
set_option maxHeartbeats 4000000 in
theorem otherCode_any (p : Int) (w : World) (hT : TW w) (h0 : -2147483648 ≤ p) (h1 : p ≤ 2147483647) :
    Calls Tryz.prog 155 #[.int .i32 p] w (OcPost (otherCodeM p) w) := by
  obtain ⟨R, hR⟩ : ∃ R, R = otherCodeM p := ⟨_, rfl⟩
  rw [← hR]
  unfold otherCodeM at hR
  obtain ⟨X, hX⟩ : ∃ X, X = (wSpans.find? (inTo p)).map fun s => s.1 + (p - s.2.1) := ⟨_, rfl⟩
  obtain ⟨Y, hY⟩ : ∃ Y, Y = ocRows p 6 161 := ⟨_, rfl⟩
  rw [← hX, ← hY] at hR
  have K1 := Lib.hid listed_any
  have K2 := Lib.hid (fun lead w hT => wfind_any (wRowL lead) p w hT (by have := (wRowL_hex lead).2; omega) h0 h1)
  have HR := Lib.hid hR
  have HX := Lib.hid hX
  have HT := Lib.hid hT
  have HY := Lib.hid hY
  clear hR hX hT hY
  go_enter Tryz.func155, Tryz.ntmps155
  go_wp2
  go_loopw [4] (fun t wr => ∃ (f : Nat) (i : Int), t = .int .i64 i ∧ 161 ≤ i ∧ i + f = 167 ∧ Hid (Y = ocRows p f i) ∧ Below w.heap.size w wr) (fun t _ => (167 - intOf t).toNat)
  case atStart => exact ⟨6, 161, rfl, by omega, by omega, HY, Below.refl _ _⟩
  case round =>
    obtain ⟨f, i, rfl, hi0, hi, hf, hbel⟩ := hrel
    by_cases hlt : i < 167
    · obtain ⟨f, rfl⟩ : ∃ g, f = g + 1 := ⟨f - 1, by omega⟩
      have k1 := fun w => K1.out i w (by omega) (by omega)
      have k2 := fun w hT => K2.out i w hT
      have hff := hf.out
      rw [ocRows] at hff
      have hfb := findM_bd (wRowL i) p
      have hsz := (wRowL_hex i).2
      generalize findM (bl (wRowL i)) p = k at *
      generalize wRowL i = L at *
      clear hf
      by_cases hk : 0 ≤ k
      · rw [if_pos hk] at hff
        have hr := HR.out
        rw [hff] at hr
        simp only at hr
        have K1' := Lib.hid k1
        have K2' := Lib.hid k2
        have HR' := Lib.hid hr
        clear k1 k2 hr
        clear hff
        go_wp2_with (first
          | (go_at_call 207; refine (K1'.out _).mono ?_; rintro e w1 ⟨rfl, rfl⟩)
          | (go_at_call 208; refine (K2'.out _ (HT.out.bel hbel)).mono ?_; rintro e w2 ⟨rfl, hb2⟩))
        refine bodyPost_ret (v := .tuple #[.int .i64 (i * 256 + 161 + k), .bool true]) (by simp [results, Tryz.results155, go_sem]) rfl ?_
        exact (show OcPost _ _ _ _ from ⟨by rw [HR'.out]; rfl, bt hbel hb2⟩)
      · rw [if_neg hk] at hff
        have K1' := Lib.hid k1
        have K2' := Lib.hid k2
        have HF' := Lib.hid hff
        clear k1 k2 hff
        go_wp2_with (first
          | (go_at_call 207; refine (K1'.out _).mono ?_; rintro e w1 ⟨rfl, rfl⟩)
          | (go_at_call 208; refine (K2'.out _ (HT.out.bel hbel)).mono ?_; rintro e w2 ⟨rfl, hb2⟩))
        go_roundw
        case rel => exact ⟨f, i + 1, by go_num, by omega, by omega, HF', bt hbel hb2⟩
        case measure => simp [intOf]; omega
    · have hi7 : i = 167 := by omega
      subst hi7
      have hf0 : f = 0 := by omega
      subst hf0
      have hff := hf.out
      rw [ocRows] at hff
      have hr := HR.out
      rw [hff] at hr
      simp only at hr
      have HR' := Lib.hid hr
      clear hff hr hf HR
      go_wp2_with fail
      refine (wspans_any wr).mono ?_
      rintro e W ⟨rfl, hb, hcells⟩
      have HC := Lib.hid hcells
      clear hcells
      go_wp2_with fail
      go_loopw [29] (fun t wq => ∃ i : Nat, t = .int .i64 (i : Int) ∧ i ≤ 19 ∧ Hid (wSpans.find? (inTo p) = (wSpans.drop i).find? (inTo p)) ∧ Below W.heap.size W wq) (fun t _ => (19 - intOf t).toNat)
      case atStart => exact ⟨0, rfl, by omega, rfl, Below.refl _ _⟩
      case round =>
        obtain ⟨i, rfl, hi, hf, hbel2⟩ := hrel
        rename World => wq
        have hbw := (bt hbel hb).trans (hbel2.mono (bt hbel hb).size)
        by_cases hlt : i < 19
        · have hget : wSpans[i]? = some (wSpans[i]'(by rw [wSpans_len]; exact hlt)) := List.getElem?_eq_getElem _
          have hdrop : wSpans.drop i = wSpans[i]'(by rw [wSpans_len]; exact hlt) :: wSpans.drop (i + 1) := List.drop_eq_getElem_cons _
          have hbd := wSpans_bd _ (List.getElem_mem (by rw [wSpans_len]; exact hlt))
          generalize wSpans[i]'(by rw [wSpans_len]; exact hlt) = s at *
          obtain ⟨y1, y2, y3⟩ := HC.out i s hget
          obtain ⟨a, b, c⟩ := s
          simp only at y1 y2 y3 hbd
          obtain ⟨b1, b2, b3, b4, b5, b6⟩ := hbd
          have z1 := kc hbel2 y1
          have z2 := kc hbel2 y2
          have z3 := kc hbel2 y3
          have hff := hf.out
          rw [hdrop, List.find?_cons] at hff
          have hin : inTo p (a, b, c) = decide (b ≤ p ∧ p - b < c) := rfl
          by_cases ha : b ≤ p ∧ p - b < c
          · rw [hin, decide_eq_true ha] at hff
            simp only at hff
            have hres := HX.out
            rw [hff] at hres
            simp only [Option.map_some] at hres
            have HRX := Lib.hid hres
            obtain ⟨ha1, ha2⟩ := ha
            clear hget hdrop hff hres hin y1 y2 y3
            go_wp2_with fail
            refine bodyPost_ret (v := .tuple #[.int .i64 (a + (p - b)), .bool true]) (by simp [results, Tryz.results155, go_sem]) rfl ?_
            exact (show OcPost _ _ _ _ from ⟨by rw [HR'.out, HRX.out]; rfl, hbw.alloc (by have := hbw.size; omega) _⟩)
          · rw [hin, decide_eq_false ha] at hff
            simp only at hff
            have HF := Lib.hid hff
            clear hget hdrop hff hin y1 y2 y3
            rcases (show p < b ∨ (b ≤ p ∧ c ≤ p - b) from by omega) with ha' | ⟨ha', ha''⟩
            all_goals (
              clear ha
              go_wp2_with fail
              go_roundw
              case rel => exact ⟨i + 1, by go_num, by omega, HF.out, hbel2.alloc hbel2.size _⟩
              case measure => simp [intOf]; omega)
        · have hi19 : i = 19 := by omega
          subst hi19
          have hff := hf.out
          rw [List.drop_of_length_le (by rw [wSpans_len]; exact Nat.le_refl _), List.find?_nil] at hff
          have hres := HX.out
          rw [hff] at hres
          simp only [Option.map_none] at hres
          have HRX := Lib.hid hres
          clear hff hres
          go_wp2_with fail
          refine bodyPost_ret (v := .tuple #[.int .i64 0, .bool false]) (by simp [results, Tryz.results155, go_sem]) rfl ?_
          exact (show OcPost _ _ _ _ from ⟨by rw [HR'.out, HRX.out]; rfl, hbw⟩)
/-- the two bytes of a sign; none: it has none. -/
noncomputable def wBytesM (p : Int) : List UInt8 := if 44032 ≤ p ∧ p ≤ 55203 then bigL (wCode p) 2 else match otherCodeM p with
  | some c => bigL c 2
  | none => []
set_option maxRecDepth 100000 in
set_option maxHeartbeats 2000000 in
theorem wbytes_any (p : Int) (w : World) (hT : TW w) (h0 : -2147483648 ≤ p) (h1 : p ≤ 2147483647) :
    Calls Tryz.prog 102 #[.int .i32 p] w fun e w' => e = .returned (.tuple #[.string ⟨(wBytesM p).toArray⟩, .bool (!(wBytesM p).isEmpty)]) ∧ Below w.heap.size w w' := by
  by_cases hs : 44032 ≤ p ∧ p ≤ 55203
  · have e : wBytesM p = bigL (wCode p) 2 := if_pos hs
    have e2 : (bigL (wCode p) 2).isEmpty = false := by
      cases hb : bigL (wCode p) 2 with
      | nil => have := bigL_length (wCode p) 2; rw [hb] at this; cases this
      | cons a l => rfl
    rw [e, e2]
    exact wbytes_syl p w hs.1 hs.2
  · have e : wBytesM p = match otherCodeM p with | some c => bigL c 2 | none => [] := if_neg hs
    have hbd := fun c => otherCodeM_bd p c
    have k1 := fun w => rank_out p w h0 h1 (by omega)
    have k2 := fun w hT => otherCode_any p w hT h0 h1
    rw [e]
    generalize otherCodeM p = o at *
    cases o with
    | none =>
      have k2 : ∀ w, TW w → Calls Tryz.prog 155 #[.int .i32 p] w fun e w' => e = .returned (.tuple #[.int .i64 0, .bool false]) ∧ Below w.heap.size w w' := k2
      have K1 := Lib.hid k1
      have K2 := Lib.hid k2
      clear k1 k2
      clear e hs hbd
      go_enter Tryz.func102, Tryz.ntmps102
      go_wp2_with (first
        | (go_at_call 153; refine (K1.out _).mono ?_; rintro e w1 ⟨rfl, hb1⟩)
        | (go_at_call 155; refine (K2.out _ (hT.bel hb1)).mono ?_; rintro e w2 ⟨rfl, hb2⟩))
      go_ret2
      exact ⟨rfl, bt hb1 hb2⟩
    | some c =>
      have k2 : ∀ w, TW w → Calls Tryz.prog 155 #[.int .i32 p] w fun e w' => e = .returned (.tuple #[.int .i64 c, .bool true]) ∧ Below w.heap.size w w' := k2
      obtain ⟨c0, c1⟩ := hbd c rfl
      have c3 := fun w => big_any c 2 w (by omega) (by omega)
      rw [show widthOf 2 = 2 from by decide] at c3
      have e2 : (bigL c 2).isEmpty = false := by
        cases hb : bigL c 2 with
        | nil => have := bigL_length c 2; rw [hb] at this; cases this
        | cons a l => rfl
      simp only
      rw [e2]
      have K1 := Lib.hid k1
      have K2 := Lib.hid k2
      have K3 := Lib.hid c3
      clear k1 k2 c3
      clear e hs hbd e2
      go_enter Tryz.func102, Tryz.ntmps102
      go_wp2_with (first
        | (go_at_call 153; refine (K1.out _).mono ?_; rintro e w1 ⟨rfl, hb1⟩)
        | (go_at_call 155; refine (K2.out _ (hT.bel hb1)).mono ?_; rintro e w2 ⟨rfl, hb2⟩)
        | (go_at_call 87; refine (K3.out _).mono ?_; rintro e w3 ⟨rfl, hb3⟩))
      go_ret2
      exact ⟨rfl, bt (bt hb1 hb2) hb3⟩
end Go.Proofs.YtmpndnebjahdjaaGreatDoor
