/- SniffMarks: the law's walk (begun). -/
import Derived.Test.YtohbeinhlhgfiaaGreatDoorIC
import Derived.Test.YtohbeinhlhgfiaaGreatDoorMUs
import Derived.ChangeMaps5
import Derived.Test.YtohbeinhlhgfiaaGreatDoorKSniffMarks
import Derived.Test.YtohbeinhlhgfiaaGreatDoorKg
import Derived.Test.YtohbeinhlhgfiaaGreatDoorTie
namespace Go.Proofs.YtohbeinhlhgfiaaGreatDoor.sniffMarks
open Go Go.Rf Go.RowKit
set_option linter.unusedVariables false
set_option linter.unusedSimpArgs false
theorem sx_len (l : List UInt8) (h : l.length ≤ 10000) : (sxM l).1.length ≤ 1000000 := by
  have hw : ∀ big, Short (tokW big) := fun big => by
    cases big with
    | false => exact short_C 8
    | true => exact short_C 9
  unfold sxM
  split
  · show l.length ≤ _; omega
  · split
    · show (l.drop 3).length ≤ _
      rw [List.length_drop]; omega
    · have := decT_short (hw (decide ((markM l).1 = 9))) (l.drop 2)
      rw [List.length_drop] at this
      show (decT (tokW (decide ((markM l).1 = 9))) (l.drop 2)).1.length ≤ _
      omega
theorem runA : symEv {} 6 [] = some (one1 (lB true)) := by kernel_rfl
theorem awk_any (w : World) (hG : GW w) : Calls Tryz.prog 6 #[] w fun e w' => e = .returned (.bool true) ∧ Below w.heap.size w w' := by
  letI := sgL [] trivial
  exact sym_to (vals := []) (T := {}) hG ⟨trivial, trivial, trivial, trivial, trivial, trivial, trivial⟩ rfl runA (fun _ => rfl)
set_option maxRecDepth 100000 in
set_option maxHeartbeats 8000000 in
theorem walk_long (t : ByteArray) (w : World) (hG : GW w) (h : 128 ≤ t.size) : Calls Tryz.prog 4 #[.string t] w fun e w' => e = .returned (.bool true) ∧ Below w.heap.size w w' := by
  have KA := Lib.hid (awk_any w hG)
  have g : (t.size : Int) ≥ 128 := by omega
  by_cases h3 : t.size > 300
  · have g3 : (t.size : Int) > 300 := by omega
    clear h
    go_enter Tryz.func4, Tryz.ntmps4
    go_wp2_with (go_at_call 6; refine (KA.out).mono ?_; rintro e w1 ⟨rfl, hb1⟩)
    go_ret
    exact ⟨rfl, hb1⟩
  · have g3 : ¬ (t.size : Int) > 300 := by omega
    clear h
    go_enter Tryz.func4, Tryz.ntmps4
    go_wp2_with (go_at_call 6; refine (KA.out).mono ?_; rintro e w1 ⟨rfl, hb1⟩)
    go_ret
    exact ⟨rfl, hb1⟩
set_option maxRecDepth 100000 in
set_option maxHeartbeats 8000000 in
theorem walk_bad (t : ByteArray) (w : World) (hG : GW w) (h : t.size < 128) (k : Nat) (hb : (scanL (bl t)).2 = some k) : Calls Tryz.prog 4 #[.string t] w fun e w' => e = .returned (.bool true) ∧ Below w.heap.size w w' := by
  have KA := Lib.hid awk_any
  have kp : ∀ w, Calls Tryz.prog 9 #[.string t] w fun e w' => e = .returned (.tuple #[.slice none 0 0, .int .i64 (k : Nat)]) ∧ Below w.heap.size w w' := fun w => by
    refine (refPoints_any t w (by omega)).mono fun e w' q => ?_
    unfold RPts RPtsS at q
    rw [hb] at q
    exact q
  have KP := Lib.hid kp
  have hsx : (sxM (bl t)).1.length ≤ 1000000 := sx_len _ (by rw [bl_length]; omega)
  have kk := fun w hG => kind_any t w hG (by omega) hsx
  have KK := Lib.hid kk
  have HG := Lib.hid hG
  have g : ¬ (t.size : Int) ≥ 128 := by omega
  have g3 : ¬ (t.size : Int) > 300 := by omega
  have g4 : (k : Int) ≥ 0 := by omega
  clear kp kk hb h hsx hG
  go_enter Tryz.func4, Tryz.ntmps4
  go_wp2_with (first
    | (go_at_call 9; refine (KP.out _).mono ?_; rintro e w1 ⟨rfl, hb1⟩)
    | (go_at_call 7; refine (KK.out _ (HG.out.bel hb1)).mono ?_; rintro e w2 ⟨rfl, hb2⟩)
    | (go_at_call 6; refine (KA.out _ (HG.out.bel (bt hb1 hb2))).mono ?_; rintro e w3 ⟨rfl, hb3⟩))
  go_ret
  exact ⟨rfl, bt (bt hb1 hb2) hb3⟩
theorem pts_le (f : Nat) : ∀ l : List UInt8, (ptsF f l).length ≤ f := by
  induction f with
  | zero => intro l; exact Nat.le_refl _
  | succ f ih => intro l; rw [ptsF]; split
                 · simp
                 · rw [List.length_cons]; have := ih (l.drop (dec l).2); omega
theorem bytesP_lenJ (big : Bool) (p : Int) : (bytesP big p).length ≤ 4 := by
  unfold bytesP unitsP
  split <;> simp [unitB_len]
/-- a file whose text is a text of a kind: whatever stands ahead of it, if it is no letters of a kind. -/
theorem kind_same (l f : List UInt8) (hl : sxM l = (l, true)) (hf : sxM f = (l, true)) (hk : 4 ≤ (kindS l).1) (h1 : Lib.hasPrefix f id3L = false) (h2 : Lib.hasPrefix f oggL = false) (h3 : Lib.hasPrefix f flcL = false) : kindS f = ((kindS l).1, true) ∧ (kindS l).2 = true := by
  have e : linesK f = linesK l := by unfold linesK; rw [hl, hf]
  have hne : linesK l ≠ 0 ∧ kindS l = (linesK l, true) := by
    unfold kindS at hk ⊢
    split at hk
    · omega
    · split at hk
      · omega
      · split at hk
        · omega
        · split at hk
          · rename_i a1 a2 a3 a4
            exact ⟨a4.2, by rw [if_neg a1, if_neg a2, if_neg a3, if_pos a4]⟩
          · simp only at hk
            split at hk <;> omega
  refine ⟨?_, by rw [hne.2]⟩
  rw [hne.2, ← e]
  exact kind_lines f (by rw [e]; exact hne.1) (by rw [hf]) h1 h2 h3
set_option maxRecDepth 100000 in
set_option maxHeartbeats 8000000 in
theorem walk_good (t : ByteArray) (w : World) (hG : GW w) (h : t.size < 128) (hb : (scanL (bl t)).2 = none) : Calls Tryz.prog 4 #[.string t] w fun e w' => e = .returned (.bool true) ∧ Below w.heap.size w w' := by
  have KA := Lib.hid awk_any
  have kp : ∀ w, Calls Tryz.prog 9 #[.string t] w fun e w' => (∃ v, e = .returned (.tuple #[v, .int .i64 (-1)]) ∧ OwnI w' w.heap.size v (pts (bl t))) ∧ Below w.heap.size w w' := fun w => by
    refine (refPoints_any t w (by omega)).mono fun e w' q => ?_
    unfold RPts RPtsS at q
    rw [hb] at q
    exact q
  have KP := Lib.hid kp
  have hlen := bl_length t
  have hsx : (sxM (bl t)).1.length ≤ 1000000 := sx_len _ (by omega)
  obtain ⟨Z, hZ⟩ : ∃ Z, Z = (kindS (bl t)).1 := ⟨_, rfl⟩
  obtain ⟨ok, hok⟩ : ∃ ok, ok = (kindS (bl t)).2 := ⟨_, rfl⟩
  have kk : ∀ w, GW w → Calls Tryz.prog 7 #[.string t] w fun e w' => e = .returned (.tuple #[.int .i64 Z, .bool ok]) ∧ Below w.heap.size w w' := fun w hG => by
    have := kind_any t w hG (by omega) hsx
    rwa [← hZ, ← hok] at this
  have KK := Lib.hid kk
  have kb : ∀ w, GW w → Calls Tryz.prog 10 #[.string t, .string ⟨#[239, 187, 191]⟩] w fun e w' => e = .returned (.bool (Lib.hasPrefix (bl t) [239, 187, 191])) ∧ Below w.heap.size w w' := fun w hG => begins_any t ⟨#[239, 187, 191]⟩ w hG
  have HG := Lib.hid hG
  have g : ¬ (t.size : Int) ≥ 128 := by omega
  have g3 : ¬ (t.size : Int) > 300 := by omega
  cases hp : Lib.hasPrefix (bl t) [239, 187, 191] with
  | true =>
    rw [hp] at kb
    have KB := Lib.hid kb
    clear kp kk kb hp hb h hsx hG hlen hZ hok
    go_enter Tryz.func4, Tryz.ntmps4
    go_wp2_with (first
      | (go_at_call 9; go_loud (with_reducible refine (KP.out _).mono ?_); go_loud (rintro e w1 ⟨⟨v, rfl, hown⟩, hb1⟩))
      | (go_at_call 7; go_loud (with_reducible refine (KK.out _ (HG.out.bel hb1)).mono ?_); go_loud (rintro e w2 ⟨rfl, hb2⟩); go_loud (replace hb1 := bt hb1 hb2))
      | (go_at_call 10; go_loud (with_reducible refine (KB.out _ (HG.out.bel hb1)).mono ?_); go_loud (rintro e w3 ⟨rfl, hb3⟩); go_loud (replace hb1 := bt hb1 hb3))
      | (go_at_call 6; go_loud (with_reducible refine (KA.out _ (HG.out.bel hb1)).mono ?_); go_loud (rintro e w4 ⟨rfl, hb4⟩)))
    go_ret
    exact ⟨rfl, bt hb1 hb4⟩
  | false =>
    rw [hp] at kb
    have KB := Lib.hid kb
    by_cases h4 : Z < 4
    · clear kp kk kb hp hb h hsx hG hlen hZ hok
      go_enter Tryz.func4, Tryz.ntmps4
      go_wp2_with (first
        | (go_at_call 9; go_loud (with_reducible refine (KP.out _).mono ?_); go_loud (rintro e w1 ⟨⟨v, rfl, hown⟩, hb1⟩))
        | (go_at_call 7; go_loud (with_reducible refine (KK.out _ (HG.out.bel hb1)).mono ?_); go_loud (rintro e w2 ⟨rfl, hb2⟩); go_loud (replace hb1 := bt hb1 hb2))
        | (go_at_call 10; go_loud (with_reducible refine (KB.out _ (HG.out.bel hb1)).mono ?_); go_loud (rintro e w3 ⟨rfl, hb3⟩); go_loud (replace hb1 := bt hb1 hb3))
        | (go_at_call 6; go_loud (with_reducible refine (KA.out _ (HG.out.bel hb1)).mono ?_); go_loud (rintro e w4 ⟨rfl, hb4⟩)))
      go_ret
      exact ⟨rfl, bt hb1 hb4⟩
    · have hl := sx_good (bl t) hp hb
      have h4' : 4 ≤ (kindS (bl t)).1 := by omega
      have no : ∀ (x : UInt8) (r : List UInt8), (x = 239 ∨ x = 255 ∨ x = 254) → Lib.hasPrefix (x :: r) id3L = false ∧ Lib.hasPrefix (x :: r) oggL = false ∧ Lib.hasPrefix (x :: r) flcL = false := fun x r hx => by
        rcases hx with rfl | rfl | rfl <;> exact ⟨rfl, rfl, rfl⟩
      obtain ⟨U, hU⟩ : ∃ U : Bool → ByteArray, U = fun big => ⟨((pts (bl t)).flatMap (bytesP big)).toArray⟩ := ⟨_, rfl⟩
      have hUl : ∀ big, bl (U big) = (pts (bl t)).flatMap (bytesP big) := fun big => by rw [hU]
      have hpl : (pts (bl t)).length ≤ 128 := by have := pts_le (bl t).length (bl t); unfold pts; omega
      have hUz : ∀ big, (U big).size ≤ 1000 := fun big => by
        rw [← bl_length, hUl]
        have : ∀ ps : List Int, (ps.flatMap (bytesP big)).length ≤ 4 * ps.length := fun ps => by
          induction ps with
          | nil => exact Nat.le_refl _
          | cons p ps ih => rw [List.flatMap_cons, List.length_append, List.length_cons]; have := bytesP_lenJ big p; omega
        have := this (pts (bl t)); omega
      have hsc := (valid_enc (bl t) hb).2
      have ke : ∀ (big : Bool) (v : Value) w', OwnI w' w.heap.size v (pts (bl t)) → Calls Tryz.prog 11 #[v, .bool big] w' fun e w'' => e = .returned (.string (U big)) ∧ Below w'.heap.size w' w'' := fun big v w' ho => by
        have := encode3r_any big v (pts (bl t)) w' ho.row hsc (by omega)
        rw [hU]
        exact this
      have kf : ∀ (f : ByteArray) w', GW w' → f.size ≤ 2000 → sxM (bl f) = (bl t, true) → Lib.hasPrefix (bl f) id3L = false → Lib.hasPrefix (bl f) oggL = false → Lib.hasPrefix (bl f) flcL = false → Calls Tryz.prog 7 #[.string f] w' fun e w'' => e = .returned (.tuple #[.int .i64 Z, .bool true]) ∧ Below w'.heap.size w' w'' := fun f w' hG' hz hx n1 n2 n3 => by
        have := kind_any f w' hG' (by omega) (by rw [hx]; simp only; omega)
        rwa [(kind_same (bl t) (bl f) hl hx h4' n1 n2 n3).1, ← hZ] at this
      have hokt : ok = true := by rw [hok]; exact (kind_same (bl t) (239 :: 187 :: 191 :: bl t) hl (sx_bom _) h4' (no _ _ (.inl rfl)).1 (no _ _ (.inl rfl)).2.1 (no _ _ (.inl rfl)).2.2).2
      subst hokt
      have b1 : bl ((⟨#[239, 187, 191]⟩ : ByteArray) ++ t) = 239 :: 187 :: 191 :: bl t := by
        show ((⟨#[239, 187, 191]⟩ : ByteArray) ++ t).data.toList = _
        rw [ByteArray.data_append, Array.toList_append]; rfl
      have b2 : bl ((⟨#[255, 254]⟩ : ByteArray) ++ U false) = 255 :: 254 :: bl (U false) := by
        show ((⟨#[255, 254]⟩ : ByteArray) ++ U false).data.toList = _
        rw [ByteArray.data_append, Array.toList_append]; rfl
      have b3 : bl ((⟨#[254, 255]⟩ : ByteArray) ++ U true) = 254 :: 255 :: bl (U true) := by
        show ((⟨#[254, 255]⟩ : ByteArray) ++ U true).data.toList = _
        rw [ByteArray.data_append, Array.toList_append]; rfl
      have z1 : ((⟨#[239, 187, 191]⟩ : ByteArray) ++ t).size ≤ 2000 := by rw [← bl_length, b1]; simp; omega
      have z2 : ((⟨#[255, 254]⟩ : ByteArray) ++ U false).size ≤ 2000 := by rw [← bl_length, b2]; have := hUz false; simp [bl_length]; omega
      have z3 : ((⟨#[254, 255]⟩ : ByteArray) ++ U true).size ≤ 2000 := by rw [← bl_length, b3]; have := hUz true; simp [bl_length]; omega
      have kf1 : ∀ w', GW w' → Calls Tryz.prog 7 #[.string ((⟨#[239, 187, 191]⟩ : ByteArray) ++ t)] w' fun e w'' => e = .returned (.tuple #[.int .i64 Z, .bool true]) ∧ Below w'.heap.size w' w'' := fun w' hG' => by
        obtain ⟨n1, n2, n3⟩ := no 239 (187 :: 191 :: bl t) (.inl rfl)
        exact kf _ w' hG' z1 (by rw [b1]; exact sx_bom _) (by rw [b1]; exact n1) (by rw [b1]; exact n2) (by rw [b1]; exact n3)
      have kf2 : ∀ w', GW w' → Calls Tryz.prog 7 #[.string ((⟨#[255, 254]⟩ : ByteArray) ++ U false)] w' fun e w'' => e = .returned (.tuple #[.int .i64 Z, .bool true]) ∧ Below w'.heap.size w' w'' := fun w' hG' => by
        obtain ⟨n1, n2, n3⟩ := no 255 (254 :: bl (U false)) (.inr (.inl rfl))
        exact kf _ w' hG' z2 (by rw [b2, sx_le, hUl, units_back false _ hb]; rfl) (by rw [b2]; exact n1) (by rw [b2]; exact n2) (by rw [b2]; exact n3)
      have kf3 : ∀ w', GW w' → Calls Tryz.prog 7 #[.string ((⟨#[254, 255]⟩ : ByteArray) ++ U true)] w' fun e w'' => e = .returned (.tuple #[.int .i64 Z, .bool true]) ∧ Below w'.heap.size w' w'' := fun w' hG' => by
        obtain ⟨n1, n2, n3⟩ := no 254 (255 :: bl (U true)) (.inr (.inr rfl))
        exact kf _ w' hG' z3 (by rw [b3, sx_be, hUl, units_back true _ hb]; rfl) (by rw [b3]; exact n1) (by rw [b3]; exact n2) (by rw [b3]; exact n3)
      have u1 : (U false).size ≤ 1000 := hUz false
      have u2 : (U true).size ≤ 1000 := hUz true
      have ke1 := ke false
      have ke2 := ke true
      generalize U false = P at *
      generalize U true = Q at *
      have KF1 := Lib.hid kf1
      have KF2 := Lib.hid kf2
      have KF3 := Lib.hid kf3
      have KE1 := Lib.hid ke1
      have KE2 := Lib.hid ke2
      have v1 : 3 + t.size ≤ 9223372036854775807 := by omega
      have v2 : 2 + P.size ≤ 9223372036854775807 := by omega
      have v3 : 2 + Q.size ≤ 9223372036854775807 := by omega
      clear kp kk kb kf kf1 kf2 kf3 ke ke1 ke2 hp hb hsx hG hlen hZ hok hl h4' no hU hUl hpl hUz hsc b1 b2 b3 z1 z2 z3
      go_enter Tryz.func4, Tryz.ntmps4
      go_wp2_with (first
        | (go_at_call 9; go_loud (with_reducible refine (KP.out _).mono ?_); go_loud (rintro e w1 ⟨⟨v, rfl, hown⟩, hb1⟩))
        | (go_at_call 7; go_loud (first | with_reducible refine (KK.out _ (HG.out.bel hb1)).mono ?_ | with_reducible refine (KF1.out _ (HG.out.bel hb1)).mono ?_ | with_reducible refine (KF2.out _ (HG.out.bel hb1)).mono ?_ | with_reducible refine (KF3.out _ (HG.out.bel hb1)).mono ?_); go_loud (rintro e w2 ⟨rfl, hb2⟩); go_loud (replace hb1 := bt hb1 hb2); go_loud (replace hown := hown.bel hb2))
        | (go_at_call 10; go_loud (with_reducible refine (KB.out _ (HG.out.bel hb1)).mono ?_); go_loud (rintro e w3 ⟨rfl, hb3⟩); go_loud (replace hb1 := bt hb1 hb3); go_loud (replace hown := hown.bel hb3))
        | (go_at_call 11; go_loud (first | with_reducible refine (KE1.out _ _ hown).mono ?_ | with_reducible refine (KE2.out _ _ hown).mono ?_); go_loud (rintro e w5 ⟨rfl, hb5⟩); go_loud (replace hb1 := bt hb1 hb5); go_loud (replace hown := hown.bel hb5))
        | (go_at_call 6; go_loud (with_reducible refine (KA.out _ (HG.out.bel hb1)).mono ?_); go_loud (rintro e w4 ⟨rfl, hb4⟩))
        | fail)
      go_ret
      exact ⟨rfl, bt hb1 hb4⟩
theorem walk (t : ByteArray) (w0 : t.size ≤ maxLen) (w : World) (hG : GW w) : Calls Tryz.prog 4 #[.string t] w fun e w' => e = .returned (.bool true) ∧ Below w.heap.size w w' := by
  by_cases h : 128 ≤ t.size
  · exact walk_long t w hG h
  · cases hb : (scanL (bl t)).2 with
    | some k => exact walk_bad t w hG (by omega) k hb
    | none => exact walk_good t w hG (by omega) hb
end Go.Proofs.YtohbeinhlhgfiaaGreatDoor.sniffMarks
namespace Go.Proofs.YtohbeinhlhgfiaaGreatDoor.sniffMarks
open Go.ChangeShapes Go.WideShapes Go.ChangeAt Go.RowKit Go.Lib Go.ChangeMaps
set_option linter.unusedVariables false
set_option linter.unusedSimpArgs false
abbrev laidL : List (String × DataW Unit) := [("math/bits.deBruijn32tab", Rows.laid_math_bits_deBruijn32tab), ("unicode/utf8.acceptRanges", Rows.laid_unicode_utf8_acceptRanges), ("diacritic/sniff.starts", Rows.laid_diacritic_sniff_starts), ("unicode/utf8.first", Rows.laid_unicode_utf8_first)]
theorem laidL_met (os : Os) (args : Array Value) : laidMetH Tryz.prog laidL ((World.laidAll Tryz.prog os laidL).forCall (fun _ _ => 0) ⟨#[], args, []⟩).memory := by
  rw [MakeChecks.laidMetH_plain _ _ _ (by kernel_rfl)]
  exact laidMet_laidAll _ (by kernel_rfl) (by kernel_rfl)
theorem laidL_shaped (os : Os) (args : Array Value) : ((World.laidAll Tryz.prog os laidL).forCall (fun _ _ => 0) ⟨#[], args, []⟩).Shaped Tryz.prog := World.shaped_of_ZipB (by kernel_rfl) (by kernel_rfl)
set_option maxRecDepth 100000 in
theorem lifted (os : Os) (started : os.Started) (H : Type) (enc : TypeId × Value → H) :
    ReturnsInHanded {} Tryz.checked os 4 .any (fun w args => (Rows.sniffMarksSpec.pre enc Tryz.prog Tryz.f4 Rows.sniffMarksRow.domain false w args ∧ laidMetH Tryz.prog laidL w) ∧ sizedMet enc Tryz.prog Tryz.f4 (OpenSpec.ofChange Rows.sniffMarksSpec) false w args) (Rows.sniffMarksSpec.post enc Tryz.prog Tryz.f4 false true false false) := by
  refine handed_laid_shaped (C := Tryz.checked) (X := fun w => laidMetH Tryz.prog laidL w) (fun _ _ hh h => h.of_heap hh) own started (by kernel_rfl) Tryz.func4
    (ChangeSpec.witness_shaped (enc := enc) (C := Tryz.checked) (os := os) (X := fun w _ => laidMetH Tryz.prog laidL w) false (World.laidAll Tryz.prog os laidL) #[.string ByteArray.empty] 8 (World.laidAll_os _ _ _) (laidL_shaped os _) (by kernel_rfl) (by kernel_rfl) (by kernel_rfl) (laidL_met os _)) ?_
  intro W base args ds gs before hval0 hW hL hsh
  rw [MakeChecks.laidMetH_plain _ _ _ (by kernel_rfl)] at hL
  have hT := gw_of (Lib.laidMet.reads hL (n := "math/bits.deBruijn32tab") (.head _)) (Lib.laidMet.reads hL (n := "unicode/utf8.acceptRanges") (.tail _ (.head _))) (Lib.laidMet.reads hL (n := "unicode/utf8.first") (.tail _ (.tail _ (.tail _ (.head _))))) (Lib.laidMet.reads hL (n := "diacritic/sniff.starts") (.tail _ (.tail _ (.head _)))) hsh
  have hval : ∀ (j : Nat) t v, Tryz.f4.params[j]? = some t → args[j]? = some v → Value.okWide Tryz.prog W .any base t v := hval0
  have hW' := hW
  obtain ⟨p, q, hA0, hV, rfl, hfz, hnd⟩ := hW
  have hA : DataW.TrodAll enc Tryz.prog W 0 (fun _ => true) true Tryz.f4.params.toList args.toList ds p := hA0
  rw [Tryz.params4] at hA hval
  obtain ⟨v0, vs0, d0, ds0, p0, q0, hargs, rfl, rfl, h0, r0⟩ := trodAll_cons hA
  obtain ⟨rfl, rfl, rfl⟩ := trodAll_nil r0
  obtain rfl : args = #[v0] := by cases args; simp_all
  obtain ⟨rfl, rfl⟩ := trodVars_none hV
  obtain ⟨a0, rfl, rfl, rfl, w0⟩ := open_string Tryz.underlying9 (hval 0 9 v0 rfl rfl) h0
  clear hA0 hval0
  simp only [List.append_nil] at hW'
  refine (walk a0 w0 W hT).mono fun e W' ⟨he, hg⟩ => ?_
  subst he
  exact ⟨_, rfl, post_below (pa := []) (pv := []) hW' (trodAll_cons_mk (shut_bool Tryz.underlying4 _) trodAll_mk0) (trodAll_cons_mk (shut_string Tryz.underlying9 w0) trodAll_mk0) rfl hg⟩

theorem over : Rows.sniffMarksRow.holds Tryz.pinned (OpenSpec.ofChange Rows.sniffMarksSpec) :=
  OpenClaim.holds_of_wide 4 Tryz.f4 rfl rfl rfl rfl rfl rfl rfl ⟨rfl, rfl, rfl, rfl, rfl⟩ rfl rfl rfl rfl rfl k_named Tryz.func4 k_joined (of_decide_eq_true (by kernel_rfl)) k_wrap
    (fun os started H enc _ => lifted os started H enc)

/-- THE STATEMENT: the tied card -/
theorem proved : Rows.SniffMarksCardSaid :=
  Claim7.holds_tied_plain_at .later [] [.data, .data, .data, .pinned] true Rows.sniffMarksCard.stood.harness Rows.sniffMarksCard.stood.looks over (fun _ h => by cases h) k_wf (fun _ h => by cases h) sniffMarks_row_tie rfl ⟨rfl, rfl⟩ k_main rfl
    (fun f fn hf hfn => by
      obtain rfl : f = 4 := Option.some.inj (k_named.symm.trans hf) |>.symm
      obtain rfl : fn = Tryz.f4 := (Option.some.inj (Tryz.func4.symm.trans hfn)).symm
      exact ⟨k_looks, fun j t ht => by
        rw [Tryz.params4] at ht
        have hm : t ∈ [9] := by simpa using Array.mem_of_getElem? ht
        exact (show Tryz.prog.wantsStandIn t = false by simpa using List.all_eq_true.1 k_stand t hm)⟩)
    k_goes
#print axioms proved
end Go.Proofs.YtohbeinhlhgfiaaGreatDoor.sniffMarks
