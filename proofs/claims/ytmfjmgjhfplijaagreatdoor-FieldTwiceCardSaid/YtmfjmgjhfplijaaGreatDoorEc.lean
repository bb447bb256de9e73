/- Wm, Fw, Fx, Fq, Ft -/
import Derived.Test.YtmfjmgjhfplijaaGreatDoorEb
import Derived.Test.YtmfjmgjhfplijaaGreatDoorEa
import Derived.Test.YtmfjmgjhfplijaaGreatDoorMCi
import Derived.Test.YtmfjmgjhfplijaaGreatDoorMSk
import Derived.Test.YtmfjmgjhfplijaaGreatDoorMZA
import Derived.Test.YtmfjmgjhfplijaaGreatDoorMPo
import Derived.Test.YtmfjmgjhfplijaaGreatDoorMOx
import Derived.Test.YtmfjmgjhfplijaaGreatDoorMBj
import Derived.Test.YtmfjmgjhfplijaaGreatDoorMPu
import Derived.Test.YtmfjmgjhfplijaaGreatDoorMCk
import Derived.Test.YtmfjmgjhfplijaaGreatDoorMRx
import Derived.Test.YtmfjmgjhfplijaaGreatDoorMTm
import Derived.Test.YtmfjmgjhfplijaaGreatDoorMCp
import Derived.Test.YtmfjmgjhfplijaaGreatDoorMFb
import Derived.Test.YtmfjmgjhfplijaaGreatDoorMCy
import Derived.Test.YtmfjmgjhfplijaaGreatDoorMTv
import Derived.Deep.RegionHeld3
namespace Go.Proofs.YtmfjmgjhfplijaaGreatDoor
open Go.RowKit
set_option linter.unusedVariables false
set_option linter.unusedSimpArgs false

theorem eq_bl (a : ByteArray) (l : List UInt8) : (a.toList == l) = decide (bl a = l) := by
  rw [ByteArray.toList_eq]
  by_cases h : a.data.toList = l <;> simp [h]
theorem runT_badW {tok : Tok} : ∀ (f : Nat) (l : List UInt8) (n : Nat) (acc u : List UInt8) (k : Nat), runT tok f l n acc = (u, some k) → u = [] := by
  intro f
  induction f with
  | zero => intro l n acc u k h; simp [runT] at h
  | succ f ih =>
    intro l n acc u k h
    rw [runT] at h
    split at h
    · simp at h
    · split at h
      · simp at h; first | exact h.1 | exact h.1.symm
      · exact ih _ _ _ _ _ h
theorem dcF_bd (c : Int) (l : List UInt8) : 0 ≤ (dcF c l).2.2 ∧ (dcF c l).2.2 ≤ l.length ∧ ((dcF c l).2.1 = 0 → (dcF c l).2.2 = 0) := by
  unfold dcF
  split
  · rcases hd : decT (tokC c) l with ⟨u, o⟩
    cases o with
    | none => simp
    | some k =>
      have := runT_leS (short_C c) _ _ _ _ _ _ hd
      simp only
      omega
  · simp
theorem mdF_bd (l : List UInt8) : 0 ≤ (mdF l).2.2 ∧ (mdF l).2.2 ≤ l.length ∧ ((mdF l).2.1 = 0 → (mdF l).2.2 = 0) := by
  unfold mdF
  split
  · simp
  · split
    · simp
    · next h0 hm =>
      rcases hd : decT (tokW (bigF l)) (l.drop 2) with ⟨u, o⟩
      cases o with
      | none => simp
      | some k =>
        have hl : 2 ≤ l.length := by
          have hm : markF l = true := by simpa using hm
          unfold markF bigF at hm
          rw [Bool.or_eq_true, decide_eq_true_eq, decide_eq_true_eq] at hm
          have : (l.take 2).length = 2 := by rcases hm with h | h <;> rw [h] <;> rfl
          rw [List.length_take] at this
          omega
        have hc : ∃ c : Int, tokC c = tokW (bigF l) := by
          cases bigF l with
          | true => exact ⟨9, tokC_w 9 (by decide)⟩
          | false => exact ⟨8, tokC_w 8 (by decide)⟩
        obtain ⟨c, hc⟩ := hc
        rw [← hc] at hd
        have := runT_leS (short_C c) _ _ _ _ _ _ hd
        rw [List.length_drop] at this
        simp only
        omega
/-- charset.Decode, as a text, a fault and its place. -/
theorem cdec_any (c : Int) (b : ByteArray) (w : World) (hT : TW w) (hb : b.size ≤ 1073741824) :
    Calls Tryz.prog 135 #[.int .i64 c, .string b] w fun e w' => e = .returned (.tuple #[.string ⟨(dcF c (bl b)).1.toArray⟩, .agg #[.int .i64 (dcF c (bl b)).2.1, .int .i64 (dcF c (bl b)).2.2]]) ∧ Below w.heap.size w w' := by
  have e : decV c (bl b) = .tuple #[.string ⟨(dcF c (bl b)).1.toArray⟩, .agg #[.int .i64 (dcF c (bl b)).2.1, .int .i64 (dcF c (bl b)).2.2]] := by
    unfold decV dcF
    split
    · rcases hd : decT (tokC c) (bl b) with ⟨u, o⟩
      cases o with
      | none => rfl
      | some k =>
        have := runT_badW _ _ _ _ _ _ hd
        subst this
        rfl
    · rfl
  have := cdecode_any c b w hT hb
  unfold CDecPost at this
  rw [e] at this
  exact this
theorem wmark_any (b : ByteArray) (w : World) (hb : b.size ≤ 1073741824) :
    Calls Tryz.prog 148 #[.string b] w fun e w' => e = .returned (.tuple #[.bool (bigF (bl b)), .bool (markF (bl b))]) ∧ Below w.heap.size w w' := by
  have hl := bl_length b
  by_cases hs : b.size < 2
  · have e1 : bigF (bl b) = false := by
      unfold bigF
      rw [decide_eq_false_iff_not]
      intro h
      have := congrArg List.length h
      rw [List.length_take] at this
      simp only [List.length_cons, List.length_nil] at this
      omega
    have e2 : markF (bl b) = false := by
      unfold markF
      rw [e1, Bool.false_or, decide_eq_false_iff_not]
      intro h
      have := congrArg List.length h
      rw [List.length_take] at this
      simp only [List.length_cons, List.length_nil] at this
      omega
    rw [e1, e2]
    clear e1 e2 hl
    go_enter Tryz.func148, Tryz.ntmps148
    go_wp2_with fail
    go_ret2
    exact ⟨rfl, Below.refl _ _⟩
  · have x0 : bl (b.extract 0 2) = (bl b).take 2 := by rw [bl_extract]; rfl
    have x1 : ((b.extract 0 2).toList == [254, 255]) = bigF (bl b) := by rw [eq_bl, x0]; rfl
    have x2 : ((b.extract 0 2).toList == [255, 254]) = decide ((bl b).take 2 = [255, 254]) := by rw [eq_bl, x0]
    have x3 : markF (bl b) = (bigF (bl b) || decide ((bl b).take 2 = [255, 254])) := rfl
    rw [x3]
    generalize bigF (bl b) = p at *
    generalize decide ((bl b).take 2 = [255, 254]) = q at *
    clear x0 x3 hl
    cases p
    all_goals (
      go_enter Tryz.func148, Tryz.ntmps148
      go_wp2_with fail
      go_ret2
      exact ⟨rfl, Below.refl _ _⟩)
set_option maxRecDepth 100000 in
set_option maxHeartbeats 4000000 in
theorem marked_any (b : ByteArray) (w : World) (hb : b.size ≤ 1073741824) :
    Calls Tryz.prog 141 #[.string b] w fun e w' => e = .returned (.tuple #[.string ⟨(mdF (bl b)).1.toArray⟩, .agg #[.int .i64 (mdF (bl b)).2.1, .int .i64 (mdF (bl b)).2.2]]) ∧ Below w.heap.size w w' := by
  have l0 := Live.fresh w #[.int .i64 0, .int .i64 0] 34 0 _ rfl
  have l1 := Live.fresh w #[.int .i64 0, .int .i64 0] 34 1 _ rfl
  have hbA := bal (Below.refl w.heap.size w) (.cells #[.int .i64 0, .int .i64 0] 34)
  by_cases h0 : bl b = []
  · have hb : b = ⟨#[]⟩ := ByteArray.ext (Array.toList_inj.1 h0)
    subst hb
    have e : mdF (bl ⟨#[]⟩) = ([], 0, 0) := rfl
    rw [e]
    obtain ⟨c0, f0⟩ := l0
    obtain ⟨c1, f1⟩ := l1
    go_enter Tryz.func141, Tryz.ntmps141
    go_wp2_with fail
    refine bodyPost_ret (v := .tuple #[.string ⟨#[]⟩, .agg #[.int .i64 0, .int .i64 0]]) (by simp [results, Tryz.results141, go_sem, c0, c1, f0, f1]) rfl ?_
    exact ⟨rfl, hbA⟩
  · have hne : b.toList.isEmpty = false := by
      rw [ByteArray.toList_eq]
      cases h : b.data.toList with
      | nil => exact absurd h h0
      | cons _ _ => rfl
    have k1 := fun w => wmark_any b w hb
    cases hm : markF (bl b) with
    | false =>
      have e : mdF (bl b) = ([], 2, 0) := by unfold mdF; rw [if_neg h0, hm]; rfl
      rw [e]
      rw [hm] at k1
      generalize bigF (bl b) = p at *
      have K1 := Lib.hid k1
      have HBA := Lib.hid hbA
      clear k1 hbA
      clear h0 hm e
      go_enter Tryz.func141, Tryz.ntmps141
      go_wp2_with (go_at_call 148; go_loud (refine (K1.out _).mono ?_); go_loud (rintro e w1 ⟨rfl, hb1⟩); go_loud (obtain ⟨c0, f0⟩ := l0.keep hb1); go_loud (obtain ⟨c1, f1⟩ := l1.keep hb1))
      refine bodyPost_ret (v := .tuple #[.string ⟨#[]⟩, .agg #[.int .i64 2, .int .i64 0]]) (by simp [results, Tryz.results141, go_sem, c0, c1, f0, f1]) rfl ?_
      exact ⟨rfl, ((bt HBA.out hb1).setCell (by simp) _).setCell (by simp) _⟩
    | true =>
      rw [hm] at k1
      have hsz : 2 ≤ b.size := by
        have hl := bl_length b
        unfold markF bigF at hm
        rw [Bool.or_eq_true, decide_eq_true_eq, decide_eq_true_eq] at hm
        have : ((bl b).take 2).length = 2 := by rcases hm with h | h <;> rw [h] <;> rfl
        rw [List.length_take] at this
        omega
      have hd2 : bl (b.extract 2 b.size) = (bl b).drop 2 := extract_list b 2
      have k2 := fun w => wdecode_any (b.extract 2 b.size) (bigF (bl b)) w (by rw [ByteArray.size_extract]; omega)
      rw [hd2] at k2
      have hmd : mdF (bl b) = match decT (tokW (bigF (bl b))) ((bl b).drop 2) with
          | (u, none) => (u, 0, 0)
          | (_, some k) => ([], 2, (k : Int) + 2) := by
        unfold mdF
        rw [if_neg h0, hm, if_neg (by decide)]
        rcases decT (tokW (bigF (bl b))) (List.drop 2 (bl b)) with ⟨u, _ | k⟩ <;> rfl
      have hbnd : ∀ u k, decT (tokW (bigF (bl b))) ((bl b).drop 2) = (u, some k) → u = [] ∧ k ≤ b.size := by
        intro u k h
        refine ⟨runT_badW _ _ _ _ _ _ h, ?_⟩
        have := mdF_bd (bl b)
        rw [hmd, h, bl_length] at this
        simp only at this
        omega
      rw [hmd]
      generalize bigF (bl b) = p at *
      generalize decT (tokW p) ((bl b).drop 2) = D at *
      obtain ⟨u, o⟩ := D
      cases o with
      | none =>
        have k2 : ∀ w, Calls Tryz.prog 142 #[.string (b.extract 2 b.size), .bool p] w fun e w' => e = .returned (.tuple #[.string ⟨u.toArray⟩, .agg #[.int .i64 0, .int .i64 0]]) ∧ Below w.heap.size w w' := k2
        have k3 := fun w => bad_any 0 0 w
        simp only
        have K1 := Lib.hid k1
        have K2 := Lib.hid k2
        have K3 := Lib.hid k3
        have HBA := Lib.hid hbA
        clear k1 k2 k3 hbA
        clear h0 hm hmd hbnd hd2
        go_enter Tryz.func141, Tryz.ntmps141
        go_wp2_with (first
          | (go_at_call 148; go_loud (refine (K1.out _).mono ?_); go_loud (rintro e w1 ⟨rfl, hb1⟩))
          | (go_at_call 142; go_loud (refine (K2.out _).mono ?_); go_loud (rintro e w2 ⟨rfl, hb2⟩); go_loud (have hb12 := bt (bt HBA.out hb1) hb2); go_loud (have m0 := Live.fresh w2 #[.int .i64 0, .int .i64 0] 34 0 _ rfl); go_loud (have m1 := Live.fresh w2 #[.int .i64 0, .int .i64 0] 34 1 _ rfl))
          | (go_at_call 16; go_loud (refine (K3.out _).mono ?_); go_loud (rintro e w3 ⟨rfl, hb3⟩); go_loud (have hb13 := bt (bal hb12 (.cells #[.int .i64 0, .int .i64 0] 34)) hb3); go_loud (obtain ⟨c0, f0⟩ := (((l0.keep hb1).keep hb2).alloc (.cells #[.int .i64 0, .int .i64 0] 34)).keep hb3); go_loud (obtain ⟨c1, f1⟩ := (((l1.keep hb1).keep hb2).alloc (.cells #[.int .i64 0, .int .i64 0] 34)).keep hb3); go_loud (obtain ⟨d0, g0⟩ := m0.keep hb3); go_loud (obtain ⟨d1, g1⟩ := m1.keep hb3)))
        go_region
        go_wp2_with fail
        refine bodyPost_ret (v := .tuple #[.string ⟨u.toArray⟩, .agg #[.int .i64 0, .int .i64 0]]) (by simp [results, Tryz.results141, go_sem, c0, c1, f0, f1]) rfl ?_
        exact ⟨rfl, by first | exact hb13 | exact (hb13.setCell (by simp) _).setCell (by simp) _ | exact ((hb13.drew).setCell (by simp) _).setCell (by simp) _ | exact (((bdn hb13 _)).setCell (by simp) _).setCell (by simp) _⟩
      | some k =>
        obtain ⟨rfl, hk⟩ := hbnd u k rfl
        have k2 : ∀ w, Calls Tryz.prog 142 #[.string (b.extract 2 b.size), .bool p] w fun e w' => e = .returned (.tuple #[.string ⟨#[]⟩, .agg #[.int .i64 2, .int .i64 k]]) ∧ Below w.heap.size w w' := k2
        have k3 : ∀ w, Calls Tryz.prog 16 #[.agg #[.int .i64 2, .int .i64 k]] w fun e w' => e = .returned (.bool true) ∧ Below w.heap.size w w' := fun w => bad_any 2 k w
        have hw : IntKind.i64.wrap ((k : Int) + 2) = (k : Int) + 2 := wi64 _ (by omega) (by omega)
        simp only
        have K1 := Lib.hid k1
        have K2 := Lib.hid k2
        have K3 := Lib.hid k3
        have HBA := Lib.hid hbA
        clear k1 k2 k3 hbA
        clear h0 hm hmd hbnd hd2
        go_enter Tryz.func141, Tryz.ntmps141
        go_wp2_with (first
          | (go_at_call 148; go_loud (refine (K1.out _).mono ?_); go_loud (rintro e w1 ⟨rfl, hb1⟩))
          | (go_at_call 142; go_loud (refine (K2.out _).mono ?_); go_loud (rintro e w2 ⟨rfl, hb2⟩); go_loud (have hb12 := bt (bt HBA.out hb1) hb2); go_loud (have m0 := Live.fresh w2 #[.int .i64 2, .int .i64 k] 34 0 _ rfl); go_loud (have m1 := Live.fresh w2 #[.int .i64 2, .int .i64 k] 34 1 _ rfl); go_loud (have hz1 := hb1.size); go_loud (have hz2 := hb2.size); go_loud (rw [World.size_alloc] at hz1); go_loud (have ng1 : ¬ w.heap.size = w2.heap.size := by omega); go_loud (have ng2 : ¬ w2.heap.size = w.heap.size := by omega))
          | (go_at_call 16; go_loud (refine (K3.out _).mono ?_); go_loud (rintro e w3 ⟨rfl, hb3⟩); go_loud (have hb13 := bt (bal hb12 (.cells #[.int .i64 2, .int .i64 k] 34)) hb3); go_loud (obtain ⟨c0, f0⟩ := (((l0.keep hb1).keep hb2).alloc (.cells #[.int .i64 2, .int .i64 k] 34)).keep hb3); go_loud (obtain ⟨c1, f1⟩ := (((l1.keep hb1).keep hb2).alloc (.cells #[.int .i64 2, .int .i64 k] 34)).keep hb3); go_loud (obtain ⟨d0, g0⟩ := m0.keep hb3); go_loud (obtain ⟨d1, g1⟩ := m1.keep hb3)))
        go_region
        go_wp2_with fail
        refine bodyPost_ret (v := .tuple #[.string ⟨#[]⟩, .agg #[.int .i64 2, .int .i64 ((k : Int) + 2)]]) (by simp [results, Tryz.results141, go_sem, c0, c1, f0, f1, d0, d1, g0, g1]) rfl ?_
        exact ⟨rfl, (((hb13.setCell (by simp only; omega) _).setCell (by simp) _).setCell (by simp) _).drew⟩
theorem we_len (big : Bool) : ∀ (f : Nat) (l : List UInt8) (n : Nat) (acc : List UInt8), (runT (tokWE big) f l n acc).1.length ≤ acc.length + 4 * l.length := by
  intro f
  induction f with
  | zero => intro l n acc; simp [runT]
  | succ f ih =>
    intro l n acc
    by_cases hl : l = []
    · subst hl; simp [runT]
    · have hp := dec_pos l
      have hll : 0 < l.length := List.length_pos_iff.2 hl
      have hb := bytesP_len big (dec l).1
      rw [runT_some f l n acc (bytesP big (dec l).1) (dec l).2 hl rfl]
      refine Nat.le_trans (ih _ _ _) ?_
      rw [List.length_append, List.length_drop]
      omega
theorem unitsT_len (t : List UInt8) : (unitsT t).length ≤ 2 + 4 * t.length := by
  have := we_len false t.length t 0 []
  unfold unitsT decT
  rw [List.length_append]
  simp only [List.length_cons, List.length_nil] at this ⊢
  omega
set_option maxRecDepth 100000 in
set_option maxHeartbeats 4000000 in
theorem withmark_any (t : ByteArray) (w : World) (hT : TW w) (hv : (scanL (bl t)).2 = none) (ht : t.size ≤ 1073741824) :
    Calls Tryz.prog 58 #[.string t] w fun e w' => e = .returned (.tuple #[.string ⟨(unitsT (bl t)).toArray⟩, .agg #[.int .i64 0, .int .i64 0]]) ∧ Below w.heap.size w w' := by
  obtain ⟨U, hU⟩ : ∃ U : ByteArray, U = ⟨(decT (tokWE false) (bl t)).1.toArray⟩ := ⟨_, rfl⟩
  have k1 : ∀ w, TW w → Calls Tryz.prog 106 #[.string t, .bool false] w fun e w' => e = .returned (.tuple #[.string U, .agg #[.int .i64 0, .int .i64 0]]) ∧ Below w.heap.size w w' := by
    intro w hT
    have := wencode_any false t w hT ht
    unfold EncPost encW at this
    rw [hv] at this
    rw [hU]
    exact this
  have k2 := fun w => bad_any 0 0 w
  have hul := unitsT_len (bl t)
  rw [bl_length] at hul
  have hUT : unitsT (bl t) = [255, 254] ++ bl U := by rw [hU]; rfl
  have k3 : ∀ w1 : World, Calls Tryz.prog 60 #[.slice (some ⟨w1.heap.size, 0, none⟩) 2 2] (w1.alloc (.cells #[.string ⟨#[255, 254]⟩, .string U] 9)) fun e w' => e = .returned (.string ⟨(unitsT (bl t)).toArray⟩) ∧ Below w1.heap.size w1 w' := by
    intro w1
    have ho : (w1.alloc (.cells #[.string ⟨#[255, 254]⟩, .string U] 9)).ownsRow w1.heap.size 9 1 (.slice (some ⟨w1.heap.size, 0, none⟩) 2 2) 2 (scells [⟨#[255, 254]⟩, U]) :=
      World.ownsRow_lit (size := 1) (base := w1.heap.size) w1 #[.string ⟨#[255, 254]⟩, .string U] 2 (Nat.le_refl _) (by unfold maxLen; omega) rfl
    have hj : (([⟨#[255, 254]⟩, U] : List ByteArray).map bl).flatten = unitsT (bl t) := by rw [hUT]; simp [bl]
    have := ojoin_any w1.heap.size _ [⟨#[255, 254]⟩, U] _ ho (by simp) (by simp) (by rw [hj]; omega)
    rw [hj] at this
    refine this.mono ?_
    rintro e w' ⟨rfl, hb⟩
    exact ⟨rfl, bt (bal (Below.refl _ _) _) hb⟩
  have l0 := Live.fresh w #[.int .i64 0, .int .i64 0] 34 0 _ rfl
  have l1 := Live.fresh w #[.int .i64 0, .int .i64 0] 34 1 _ rfl
  have hbA := bal (Below.refl w.heap.size w) (.cells #[.int .i64 0, .int .i64 0] 34)
  have hTA := hT.bel hbA
  have K1 := Lib.hid k1
  have K2 := Lib.hid k2
  have K3 := Lib.hid k3
  have HBA := Lib.hid hbA
  have HTA := Lib.hid hTA
  clear k1 k2 k3 hbA hTA
  clear hU hUT hul hT
  go_enter Tryz.func58, Tryz.ntmps58
  go_wp2_with (first
    | (go_at_call 106; go_loud (refine (K1.out _ HTA.out).mono ?_); go_loud (rintro e w1 ⟨rfl, hb1⟩); go_loud (have hb11 := bt HBA.out hb1); go_loud (have y0 := (l0.keep hb1).alloc (.cells #[.int .i64 0, .int .i64 0] 34)); go_loud (have y1 := (l1.keep hb1).alloc (.cells #[.int .i64 0, .int .i64 0] 34)); go_loud (have hb12 := bal hb11 (.cells #[.int .i64 0, .int .i64 0] 34)))
    | (go_at_call 16; go_loud (refine (K2.out _).mono ?_); go_loud (rintro e w2 ⟨rfl, hb2⟩); go_loud (have hb13 := bt hb12 hb2); go_loud (have z0 := y0.keep hb2); go_loud (have z1 := y1.keep hb2))
    | (go_at_call 60; go_loud (refine (K3.out _).mono ?_); go_loud (rintro e w3 ⟨rfl, hb3⟩); go_loud (have hb14 := bt hb13 hb3); go_loud (obtain ⟨c0, f0⟩ := z0.keep hb3); go_loud (obtain ⟨c1, f1⟩ := z1.keep hb3)))
  refine bodyPost_ret (v := .tuple #[.string ⟨(unitsT (bl t)).toArray⟩, .agg #[.int .i64 0, .int .i64 0]]) (by simp [results, Tryz.results58, go_sem, c0, c1, f0, f1]) rfl ?_
  exact ⟨rfl, by first | exact hb14 | exact (hb14.setCell (by simp) _).setCell (by simp) _⟩

def untilO (x : RS) (k : Nat) : Option Nat → RS × ByteArray
  | some p => ({ x with n := p + k }, x.s.extract x.n p)
  | none => (shortR x, ⟨#[]⟩)
theorem until_eq (x : RS) (e : List UInt8) (he : x.e = 0) : untilR x e = untilO x e.length ((findE e (x.s.size + 1) ((bl x.s).drop x.n)).map (· + x.n)) := by
  unfold untilR
  rw [if_neg (by simpa using he)]
  cases findE e (x.s.size + 1) ((bl x.s).drop x.n) with
  | none => rfl
  | some k =>
    show (({ x with n := x.n + k + e.length } : RS), x.s.extract x.n (x.n + k)) = ({ x with n := k + x.n + e.length }, x.s.extract x.n (k + x.n))
    rw [Nat.add_comm x.n k]
set_option maxRecDepth 100000 in
set_option maxHeartbeats 4000000 in
theorem inx_until (w : World) (r : Nat) (x : RS) (t : ByteArray) (h : InX w r x) (hk : okR x) (ht : 0 < t.size) (ht2 : t.size ≤ 2) :
    Calls Tryz.prog 103 #[.pointer (some ⟨r, 0, none⟩), .string t] w fun v w' => v = .returned (.string (untilR x (bl t)).2) ∧ InX w' r (untilR x (bl t)).1 ∧ w.grownBy w' (some r) := by
  have kr := fun w h => in_ready w r x.s x.n x.b x.e x.a h
  by_cases he : x.e = 0
  · have ks := fun w h => inx_short w r x h hk
    obtain ⟨h1, h2, h3⟩ := hk
    have hd : decide (x.e = 0) = true := by simpa using he
    rw [hd] at kr
    obtain ⟨R, hR⟩ : ∃ R, R = (findE (bl t) (x.s.size + 1) ((bl x.s).drop x.n)).map (· + x.n) := ⟨_, rfl⟩
    have hw0 : untilR x (bl t) = untilO x t.size R := by rw [until_eq x _ he, hR, bl_length]
    have HTL : Hid ((bl t).length = t.size) := bl_length t
    have HXL : Hid ((bl x.s).length = x.s.size) := bl_length x.s
    have HX : Hid (x.e = 0) := he
    obtain ⟨⟨c0, _⟩, ⟨c1, _⟩, _⟩ := InC.cells h
    have hmax : max (t.size : Int) 1 = t.size := by omega
    have wS : IntKind.i64.wrap ((x.s.size : Int) - t.size) = (x.s.size : Int) - t.size := wi64 _ (by omega) (by omega)
    have KR := Lib.hid kr
    have KS := Lib.hid ks
    have HW0 := Lib.hid hw0
    have HR := Lib.hid hR
    clear kr ks hw0 hR
    clear he hd
    go_enter Tryz.func103, Tryz.ntmps103
    go_wp2_with (go_at_call 86; go_loud (refine (KR.out _ h).mono ?_); go_loud (rintro e w1 ⟨rfl, hb1⟩); go_loud (have d0 := kc hb1 c0); go_loud (have d1 := kc hb1 c1))
    have hi1 := h.bel hb1
    obtain ⟨_, ⟨_, f1⟩, _⟩ := InC.cells hi1
    have HI1 := Lib.hid hi1
    have HB1 := Lib.hid hb1
    clear hi1 hb1
    go_loop [6] (fun i => ∃ (p f : Nat), i = .int .i64 (p : Int) ∧ x.n ≤ p ∧ p ≤ x.s.size + 2 ∧ x.s.size + 1 ≤ f + p ∧ Hid ((findE (bl t) f ((bl x.s).drop p)).map (· + p) = R)) (fun i => (x.s.size + 3 - intOf i).toNat)
    case atStart => exact ⟨x.n, x.s.size + 1, rfl, Nat.le_refl _, by omega, by omega, Lib.hid HR.out.symm⟩
    case round =>
      obtain ⟨p, f, rfl, hp0, hp1, hf, hF⟩ := hrel
      by_cases hc : p + t.size ≤ x.s.size
      · obtain ⟨f, rfl⟩ : ∃ g, f = g + 1 := ⟨f - 1, by omega⟩
        have a1 : decide ((p : Int) ≤ (x.s.size : Int) - t.size) = true := by simp; omega
        have a2 : (p : Int) ≤ (x.s.size : Int) - t.size := by omega
        have z0 : (0 : Int) ≤ (p : Int) := by omega
        have z1 : (p : Int) ≤ (p : Int) + t.size := by omega
        have z2 : (p : Int) + t.size ≤ (x.s.size : Int) := by omega
        have wA : IntKind.i64.wrap ((p : Int) + t.size) = (p : Int) + t.size := wi64 _ (by omega) (by omega)
        have tn : ((p : Int) + t.size).toNat = p + t.size := by omega
        have sl : bl (x.s.extract p (p + t.size)) = ((bl x.s).drop p).take t.size := by rw [bl_extract, Nat.add_sub_cancel_left]
        have cq : ((x.s.extract p (p + t.size)).toList == t.toList) = decide (((bl x.s).drop p).take t.size = bl t) := by
          rw [ByteArray.toList_eq t]
          exact (eq_bl _ _).trans (by rw [sl])
        have hF2 := hF.out
        by_cases hq : ((bl x.s).drop p).take t.size = bl t
        · rw [findE, if_neg (by rw [List.length_drop, HXL.out, HTL.out]; omega), HTL.out, if_pos hq, Option.map_some, Nat.zero_add] at hF2
          rw [decide_eq_true hq] at cq
          have hw1 := HW0.out
          rw [← hF2] at hw1
          have y0 : (0 : Int) ≤ (x.n : Int) := by omega
          have y1 : (x.n : Int) ≤ (p : Int) := by omega
          have y2 : (p : Int) ≤ (x.s.size : Int) := by omega
          have HW1 := Lib.hid hw1
          clear hw1
          clear hq hF2 hF sl
          go_wp2_with fail
          go_quiet (fail)
          go_wp2_with fail
          go_ret
          rw [HW1.out]
          exact ⟨rfl, InC.next (InC.bel HI1.out (bdn (Below.refl _ _) _)) _, gr_trans (gr_below (bdn HB1.out _)) (gr_set _ _ _ _)⟩
        · rw [findE, if_neg (by rw [List.length_drop, HXL.out, HTL.out]; omega), HTL.out, if_neg hq, List.drop_drop] at hF2
          rw [decide_eq_false hq] at cq
          have hF3 : (findE (bl t) f ((bl x.s).drop (p + t.size))).map (· + (p + t.size)) = R := by
            rw [← hF2]
            cases findE (bl t) f ((bl x.s).drop (p + t.size)) with
            | none => rfl
            | some k => simp only [Option.map_some]; congr 1; omega
          have HF3 := Lib.hid hF3
          clear hF3
          clear hq hF2 hF sl
          go_wp2_with fail
          go_round
          case rel => exact ⟨p + t.size, f, by go_num, by omega, by omega, by omega, HF3⟩
          case measure => simp [intOf]; omega
      · have hF2 := hF.out
        have hN : findE (bl t) f ((bl x.s).drop p) = none := by
          cases f with
          | zero => rfl
          | succ f => rw [findE, if_pos (by rw [List.length_drop, HXL.out, HTL.out]; omega)]
        rw [hN] at hF2
        have hw1 := HW0.out
        rw [← hF2] at hw1
        have a1 : decide ((p : Int) ≤ (x.s.size : Int) - t.size) = false := by simp; omega
        have a2 : ¬ (p : Int) ≤ (x.s.size : Int) - t.size := by omega
        have HW1 := Lib.hid hw1
        clear hw1
        clear hF2 hF hN
        go_wp2_with (go_at_call 88; go_loud (refine (KS.out _ HI1.out).mono ?_); go_loud (rintro e w2 ⟨rfl, hi2, hg2⟩))
        go_ret
        rw [HW1.out]
        exact ⟨rfl, hi2, gr_trans (gr_below HB1.out) hg2⟩
  · have ef : untilR x (bl t) = (x, ⟨#[]⟩) := by unfold untilR; rw [if_pos he]
    have hd : decide (x.e = 0) = false := by simpa using he
    rw [ef]
    rw [hd] at kr
    have KR := Lib.hid kr
    clear kr
    clear ef hk
    go_enter Tryz.func103, Tryz.ntmps103
    go_wp2_with (go_at_call 86; refine (KR.out _ h).mono ?_; rintro x w1 ⟨rfl, hb1⟩)
    go_ret
    exact ⟨rfl, h.bel hb1, gr_below hb1⟩
end Go.Proofs.YtmfjmgjhfplijaaGreatDoor

namespace Go.Proofs.YtmfjmgjhfplijaaGreatDoor
open Go.RowKit
set_option linter.unusedVariables false
set_option linter.unusedSimpArgs false

theorem fname_any (c : UInt8) (w : World) (hc : c ∈ letF) : Calls Tryz.prog 53 #[.int .u8 (c.toNat : Int)] w fun e w' => e = .returned (.string (nameF c)) ∧ Below w.heap.size w w' := by
  simp only [letF, List.mem_cons, List.not_mem_nil, or_false] at hc
  rcases hc with rfl | rfl | rfl | rfl | rfl | rfl | rfl
  · show Calls Tryz.prog 53 #[.int .u8 108] w fun e w' => e = .returned (.string (nameF 108)) ∧ Below w.heap.size w w'
    go_enter Tryz.func53, Tryz.ntmps53
    go_wp2_with fail
    go_ret
    exact ⟨rfl, Below.refl _ _⟩
  · show Calls Tryz.prog 53 #[.int .u8 102] w fun e w' => e = .returned (.string (nameF 102)) ∧ Below w.heap.size w w'
    go_enter Tryz.func53, Tryz.ntmps53
    go_wp2_with fail
    go_ret
    exact ⟨rfl, Below.refl _ _⟩
  · show Calls Tryz.prog 53 #[.int .u8 122] w fun e w' => e = .returned (.string (nameF 122)) ∧ Below w.heap.size w w'
    go_enter Tryz.func53, Tryz.ntmps53
    go_wp2_with fail
    go_ret
    exact ⟨rfl, Below.refl _ _⟩
  · show Calls Tryz.prog 53 #[.int .u8 107] w fun e w' => e = .returned (.string (nameF 107)) ∧ Below w.heap.size w w'
    go_enter Tryz.func53, Tryz.ntmps53
    go_wp2_with fail
    go_ret
    exact ⟨rfl, Below.refl _ _⟩
  · show Calls Tryz.prog 53 #[.int .u8 100] w fun e w' => e = .returned (.string (nameF 100)) ∧ Below w.heap.size w w'
    go_enter Tryz.func53, Tryz.ntmps53
    go_wp2_with fail
    go_ret
    exact ⟨rfl, Below.refl _ _⟩
  · show Calls Tryz.prog 53 #[.int .u8 116] w fun e w' => e = .returned (.string (nameF 116)) ∧ Below w.heap.size w w'
    go_enter Tryz.func53, Tryz.ntmps53
    go_wp2_with fail
    go_ret
    exact ⟨rfl, Below.refl _ _⟩
  · show Calls Tryz.prog 53 #[.int .u8 114] w fun e w' => e = .returned (.string (nameF 114)) ∧ Below w.heap.size w w'
    go_enter Tryz.func53, Tryz.ntmps53
    go_wp2_with fail
    go_ret
    exact ⟨rfl, Below.refl _ _⟩
theorem fend_any (p : Value) (enc : Nat) (kd fb bu : Int) (g : Bool) (w : World) (he : enc < 256) :
    Calls Tryz.prog 59 #[.agg #[p, .int .u8 enc, .int .i64 kd, .int .i64 fb, .bool g, .int .i64 bu]] w fun e w' => e = .returned (.string ⟨(endB enc).toArray⟩) ∧ Below w.heap.size w w' := by
  have hbe := bal (Below.refl w.heap.size w) (.cells #[p, .int .u8 enc, .int .i64 kd, .int .i64 fb, .bool g, .int .i64 bu] 126)
  obtain ⟨c1, _⟩ := Live.fresh w #[p, .int .u8 enc, .int .i64 kd, .int .i64 fb, .bool g, .int .i64 bu] 126 1 _ rfl
  have HBE := Lib.hid hbe
  clear hbe
  by_cases h1 : enc = 1
  · subst h1
    go_enter Tryz.func59, Tryz.ntmps59
    go_wp2_with fail
    go_ret
    exact ⟨rfl, HBE.out⟩
  · by_cases h2 : enc = 2
    · subst h2
      go_enter Tryz.func59, Tryz.ntmps59
      go_wp2_with fail
      go_ret
      exact ⟨rfl, HBE.out⟩
    · have e : endB enc = [0] := by unfold endB; rw [if_neg (by omega)]
      rw [e]
      have b1 : ((enc : Int) == 1) = false := by simp; omega
      have b2 : ((enc : Int) == 2) = false := by simp; omega
      clear h1 h2 e
      go_enter Tryz.func59, Tryz.ntmps59
      go_wp2_with fail
      go_ret
      exact ⟨rfl, HBE.out⟩
theorem fmay_any (v : Int) (enc : Nat) (w : World) (he : enc < 256) :
    Calls Tryz.prog 54 #[.int .i64 v, .int .u8 enc] w fun e w' => e = .returned (.bool (mayM v enc)) ∧ Below w.heap.size w w' := by
  by_cases h1 : enc ≤ 1
  · have e : mayM v enc = true := by unfold mayM; simp [h1]
    rw [e]
    have b1 : decide ((enc : Int) ≤ 1) = true := by simp; omega
    clear e
    go_enter Tryz.func54, Tryz.ntmps54
    go_wp2_with fail
    go_ret
    exact ⟨rfl, Below.refl _ _⟩
  · have b1 : decide ((enc : Int) ≤ 1) = false := by simp; omega
    by_cases h4 : v = 4
    · subst h4
      have e : mayM 4 enc = decide ((enc : Int) ≤ 3) := by unfold mayM; rw [Bool.eq_iff_iff]; simp; omega
      rw [e]
      clear e h1
      go_enter Tryz.func54, Tryz.ntmps54
      go_wp2_with fail
      go_ret
      exact ⟨rfl, Below.refl _ _⟩
    · have e : mayM v enc = false := by unfold mayM; simp [h1, h4]
      rw [e]
      have b2 : (v == 4) = false := by simpa using h4
      clear e h1 h4
      go_enter Tryz.func54, Tryz.ntmps54
      go_wp2_with fail
      go_ret
      exact ⟨rfl, Below.refl _ _⟩
theorem lay2_any (id : ByteArray) (w : World) (hid : id.size ≤ 1073741824) : Calls Tryz.prog 101 #[.string id] w fun e w' => e = .returned (.string ⟨(layP 3 [84, 88, 88] [67, 79, 77] [85, 76, 84] [87, 88, 88] [80, 73, 67] 102 (bl id)).toArray⟩) ∧ Below w.heap.size w w' := by
  have hl := bl_length id
  have x1 := eq_bl id [84, 88, 88]
  have x2 := eq_bl id [67, 79, 77]
  have x3 := eq_bl id [85, 76, 84]
  have x4 := eq_bl id [87, 88, 88]
  have x5 := eq_bl id [80, 73, 67]
  by_cases h1 : bl id = [84, 88, 88]
  · have e : layP 3 [84, 88, 88] [67, 79, 77] [85, 76, 84] [87, 88, 88] [80, 73, 67] 102 (bl id) = [100, 116] := by unfold layP; simp [h1]
    rw [e]
    rw [decide_eq_true h1] at x1
    clear e h1 hl x2 x3 x4 x5
    go_enter Tryz.func101, Tryz.ntmps101
    go_wp2_with fail
    go_ret
    exact ⟨rfl, Below.refl _ _⟩
  rw [decide_eq_false h1] at x1
  by_cases h2 : bl id = [67, 79, 77]
  · have e : layP 3 [84, 88, 88] [67, 79, 77] [85, 76, 84] [87, 88, 88] [80, 73, 67] 102 (bl id) = [108, 100, 116] := by unfold layP; simp [h2]
    rw [e]
    rw [decide_eq_true h2] at x2
    clear e h2 hl x3 x4 x5
    go_enter Tryz.func101, Tryz.ntmps101
    go_wp2_with fail
    go_ret
    exact ⟨rfl, Below.refl _ _⟩
  rw [decide_eq_false h2] at x2
  by_cases h3 : bl id = [85, 76, 84]
  · have e : layP 3 [84, 88, 88] [67, 79, 77] [85, 76, 84] [87, 88, 88] [80, 73, 67] 102 (bl id) = [108, 100, 116] := by unfold layP; simp [h3]
    rw [e]
    rw [decide_eq_true h3] at x3
    clear e h3 hl x4 x5
    go_enter Tryz.func101, Tryz.ntmps101
    go_wp2_with fail
    go_ret
    exact ⟨rfl, Below.refl _ _⟩
  rw [decide_eq_false h3] at x3
  by_cases h4 : bl id = [87, 88, 88]
  · have e : layP 3 [84, 88, 88] [67, 79, 77] [85, 76, 84] [87, 88, 88] [80, 73, 67] 102 (bl id) = [100, 114] := by unfold layP; simp [h4]
    rw [e]
    rw [decide_eq_true h4] at x4
    clear e h4 hl x5
    go_enter Tryz.func101, Tryz.ntmps101
    go_wp2_with fail
    go_ret
    exact ⟨rfl, Below.refl _ _⟩
  rw [decide_eq_false h4] at x4
  by_cases h5 : bl id = [80, 73, 67]
  · have e : layP 3 [84, 88, 88] [67, 79, 77] [85, 76, 84] [87, 88, 88] [80, 73, 67] 102 (bl id) = [102, 107, 100, 114] := by unfold layP; simp [h5]
    rw [e]
    rw [decide_eq_true h5] at x5
    clear e h5 hl
    go_enter Tryz.func101, Tryz.ntmps101
    go_wp2_with fail
    go_ret
    exact ⟨rfl, Below.refl _ _⟩
  rw [decide_eq_false h5] at x5
  have e : layP 3 [84, 88, 88] [67, 79, 77] [85, 76, 84] [87, 88, 88] [80, 73, 67] 102 (bl id) = if (bl id).length = 3 ∧ (bl id).head? = some 84 then [116] else [] := by unfold layP; simp [h1, h2, h3, h4, h5]
  rw [e]
  by_cases hn : id.size = 3
  · obtain ⟨x, hx⟩ := at_some (bl id) 0 (by omega)
    have X : ∀ h, id[0]'h = x := atB_of id 0 x hx
    have hh : (bl id).head? = some x := by rw [List.head?_eq_getElem?]; exact hx
    have hxl := x.toNat_lt
    have bn : ((id.size : Int) == 3) = true := by rw [beq_iff_eq]; omega
    have z0 : (0 : Int) < (id.size : Int) := by omega
    rw [hh, hl]
    by_cases h8 : x = 84
    · subst h8
      have b8 : (((84 : UInt8).toNat : Int) == 84) = true := rfl
      rw [if_pos ⟨hn, rfl⟩]
      clear hn hx hh e hl h1 h2 h3 h4 h5 hid
      go_enter Tryz.func101, Tryz.ntmps101
      go_wp2_with fail
      go_ret
      exact ⟨rfl, Below.refl _ _⟩
    · have b8 : ((x.toNat : Int) == 84) = false := by
        rw [beq_eq_false_iff_ne]
        intro h
        exact h8 (UInt8.toNat_inj.1 (by show x.toNat = 84; omega))
      rw [if_neg (by intro h; exact h8 (Option.some.inj h.2))]
      clear hn hx hh e hl h1 h2 h3 h4 h5 h8 hid
      go_enter Tryz.func101, Tryz.ntmps101
      go_wp2_with fail
      go_ret
      exact ⟨rfl, Below.refl _ _⟩
  · have bn : ((id.size : Int) == 3) = false := by rw [beq_eq_false_iff_ne]; omega
    rw [if_neg (by intro h; exact hn (by rw [← hl]; exact h.1))]
    clear hn e hl h1 h2 h3 h4 h5 hid
    go_enter Tryz.func101, Tryz.ntmps101
    go_wp2_with fail
    go_ret
    exact ⟨rfl, Below.refl _ _⟩
theorem lay4_any (id : ByteArray) (w : World) (hid : id.size ≤ 1073741824) : Calls Tryz.prog 102 #[.string id] w fun e w' => e = .returned (.string ⟨(layP 4 [84, 88, 88, 88] [67, 79, 77, 77] [85, 83, 76, 84] [87, 88, 88, 88] [65, 80, 73, 67] 122 (bl id)).toArray⟩) ∧ Below w.heap.size w w' := by
  have hl := bl_length id
  have x1 := eq_bl id [84, 88, 88, 88]
  have x2 := eq_bl id [67, 79, 77, 77]
  have x3 := eq_bl id [85, 83, 76, 84]
  have x4 := eq_bl id [87, 88, 88, 88]
  have x5 := eq_bl id [65, 80, 73, 67]
  by_cases h1 : bl id = [84, 88, 88, 88]
  · have e : layP 4 [84, 88, 88, 88] [67, 79, 77, 77] [85, 83, 76, 84] [87, 88, 88, 88] [65, 80, 73, 67] 122 (bl id) = [100, 116] := by unfold layP; simp [h1]
    rw [e]
    rw [decide_eq_true h1] at x1
    clear e h1 hl x2 x3 x4 x5
    go_enter Tryz.func102, Tryz.ntmps102
    go_wp2_with fail
    go_ret
    exact ⟨rfl, Below.refl _ _⟩
  rw [decide_eq_false h1] at x1
  by_cases h2 : bl id = [67, 79, 77, 77]
  · have e : layP 4 [84, 88, 88, 88] [67, 79, 77, 77] [85, 83, 76, 84] [87, 88, 88, 88] [65, 80, 73, 67] 122 (bl id) = [108, 100, 116] := by unfold layP; simp [h2]
    rw [e]
    rw [decide_eq_true h2] at x2
    clear e h2 hl x3 x4 x5
    go_enter Tryz.func102, Tryz.ntmps102
    go_wp2_with fail
    go_ret
    exact ⟨rfl, Below.refl _ _⟩
  rw [decide_eq_false h2] at x2
  by_cases h3 : bl id = [85, 83, 76, 84]
  · have e : layP 4 [84, 88, 88, 88] [67, 79, 77, 77] [85, 83, 76, 84] [87, 88, 88, 88] [65, 80, 73, 67] 122 (bl id) = [108, 100, 116] := by unfold layP; simp [h3]
    rw [e]
    rw [decide_eq_true h3] at x3
    clear e h3 hl x4 x5
    go_enter Tryz.func102, Tryz.ntmps102
    go_wp2_with fail
    go_ret
    exact ⟨rfl, Below.refl _ _⟩
  rw [decide_eq_false h3] at x3
  by_cases h4 : bl id = [87, 88, 88, 88]
  · have e : layP 4 [84, 88, 88, 88] [67, 79, 77, 77] [85, 83, 76, 84] [87, 88, 88, 88] [65, 80, 73, 67] 122 (bl id) = [100, 114] := by unfold layP; simp [h4]
    rw [e]
    rw [decide_eq_true h4] at x4
    clear e h4 hl x5
    go_enter Tryz.func102, Tryz.ntmps102
    go_wp2_with fail
    go_ret
    exact ⟨rfl, Below.refl _ _⟩
  rw [decide_eq_false h4] at x4
  by_cases h5 : bl id = [65, 80, 73, 67]
  · have e : layP 4 [84, 88, 88, 88] [67, 79, 77, 77] [85, 83, 76, 84] [87, 88, 88, 88] [65, 80, 73, 67] 122 (bl id) = [122, 107, 100, 114] := by unfold layP; simp [h5]
    rw [e]
    rw [decide_eq_true h5] at x5
    clear e h5 hl
    go_enter Tryz.func102, Tryz.ntmps102
    go_wp2_with fail
    go_ret
    exact ⟨rfl, Below.refl _ _⟩
  rw [decide_eq_false h5] at x5
  have e : layP 4 [84, 88, 88, 88] [67, 79, 77, 77] [85, 83, 76, 84] [87, 88, 88, 88] [65, 80, 73, 67] 122 (bl id) = if (bl id).length = 4 ∧ (bl id).head? = some 84 then [116] else [] := by unfold layP; simp [h1, h2, h3, h4, h5]
  rw [e]
  by_cases hn : id.size = 4
  · obtain ⟨x, hx⟩ := at_some (bl id) 0 (by omega)
    have X : ∀ h, id[0]'h = x := atB_of id 0 x hx
    have hh : (bl id).head? = some x := by rw [List.head?_eq_getElem?]; exact hx
    have hxl := x.toNat_lt
    have bn : ((id.size : Int) == 4) = true := by rw [beq_iff_eq]; omega
    have z0 : (0 : Int) < (id.size : Int) := by omega
    rw [hh, hl]
    by_cases h8 : x = 84
    · subst h8
      have b8 : (((84 : UInt8).toNat : Int) == 84) = true := rfl
      rw [if_pos ⟨hn, rfl⟩]
      clear hn hx hh e hl h1 h2 h3 h4 h5 hid
      go_enter Tryz.func102, Tryz.ntmps102
      go_wp2_with fail
      go_ret
      exact ⟨rfl, Below.refl _ _⟩
    · have b8 : ((x.toNat : Int) == 84) = false := by
        rw [beq_eq_false_iff_ne]
        intro h
        exact h8 (UInt8.toNat_inj.1 (by show x.toNat = 84; omega))
      rw [if_neg (by intro h; exact h8 (Option.some.inj h.2))]
      clear hn hx hh e hl h1 h2 h3 h4 h5 h8 hid
      go_enter Tryz.func102, Tryz.ntmps102
      go_wp2_with fail
      go_ret
      exact ⟨rfl, Below.refl _ _⟩
  · have bn : ((id.size : Int) == 4) = false := by rw [beq_eq_false_iff_ne]; omega
    rw [if_neg (by intro h; exact hn (by rw [← hl]; exact h.1))]
    clear hn e hl h1 h2 h3 h4 h5 hid
    go_enter Tryz.func102, Tryz.ntmps102
    go_wp2_with fail
    go_ret
    exact ⟨rfl, Below.refl _ _⟩
theorem layout_any (v : Int) (id : ByteArray) (w : World) (hi : id.size ≤ 1073741824) : Calls Tryz.prog 52 #[.int .i64 v, .string id] w fun e w' => e = .returned (.string ⟨(layM v (bl id)).toArray⟩) ∧ Below w.heap.size w w' := by
  have k1 := fun w => lay2_any id w hi
  have k2 := fun w => lay4_any id w hi
  unfold layM
  by_cases h2 : v = 2
  · subst h2
    rw [if_pos rfl]
    generalize layP 3 [84, 88, 88] [67, 79, 77] [85, 76, 84] [87, 88, 88] [80, 73, 67] 102 (bl id) = y at *
    have K1 := Lib.hid k1
    have K2 := Lib.hid k2
    clear k1 k2
    go_enter Tryz.func52, Tryz.ntmps52
    go_wp2_with (go_at_call 101; go_loud (refine (K1.out _).mono ?_); go_loud (rintro e w1 ⟨rfl, hb1⟩))
    go_ret
    exact ⟨rfl, hb1⟩
  · have b2 : (v == 2) = false := by simpa using h2
    rw [if_neg h2]
    by_cases h3 : v = 3 ∨ v = 4
    · rw [if_pos h3]
      generalize layP 4 [84, 88, 88, 88] [67, 79, 77, 77] [85, 83, 76, 84] [87, 88, 88, 88] [65, 80, 73, 67] 122 (bl id) = y at *
      have K1 := Lib.hid k1
      have K2 := Lib.hid k2
      clear k1 k2
      rcases h3 with rfl | rfl
      · go_enter Tryz.func52, Tryz.ntmps52
        go_wp2_with (go_at_call 102; go_loud (refine (K2.out _).mono ?_); go_loud (rintro e w1 ⟨rfl, hb1⟩))
        go_ret
        exact ⟨rfl, hb1⟩
      · go_enter Tryz.func52, Tryz.ntmps52
        go_wp2_with (go_at_call 102; go_loud (refine (K2.out _).mono ?_); go_loud (rintro e w1 ⟨rfl, hb1⟩))
        go_ret
        exact ⟨rfl, hb1⟩
    · rw [if_neg h3]
      have b3 : (v == 3) = false := by simp; omega
      have b4 : (v == 4) = false := by simp; omega
      clear h2 h3 k1 k2
      go_enter Tryz.func52, Tryz.ntmps52
      go_wp2_with fail
      go_ret
      exact ⟨rfl, Below.refl _ _⟩
end Go.Proofs.YtmfjmgjhfplijaaGreatDoor

namespace Go.Proofs.YtmfjmgjhfplijaaGreatDoor
open Go.RowKit
set_option linter.unusedVariables false
set_option linter.unusedSimpArgs false

theorem blkB {w w' : World} {j : Nat} {o : Obj} (h : w.heap[j]? = some o) (hb : Below w.heap.size w w') : w'.heap[j]? = some o := (hb.block j (Array.getElem?_eq_some_iff.1 h).1).trans h
theorem blkG {w w' : World} {j r : Nat} {o : Obj} (h : w.heap[j]? = some o) (hg : w.grownBy w' (some r)) (hn : j ≠ r) : w'.heap[j]? = some o := (hg.block j (Array.getElem?_eq_some_iff.1 h).1 (by simpa using hn)).trans h
def st2 (w : World) (B : Nat) (a b : Value) : World := (w.setCell ⟨B, 0, none⟩ a).setCell ⟨B, 1, none⟩ b
theorem st2_blk {w : World} {B : Nat} {t : TypeId} {x y : Value} (h : w.heap[B]? = some (.cells #[x, y] t (0, 0))) (a b : Value) : (st2 w B a b).heap[B]? = some (.cells #[a, b] t (0, 0)) := by
  have h0 := Go.Lib.heap_setCell_same (i := 0) h a
  have h1 := Go.Lib.heap_setCell_same (i := 1) h0 b
  unfold st2
  rw [h1]
  simp
theorem st2_other (w : World) (B : Nat) (a b : Value) (j : Nat) (hj : j ≠ B) : (st2 w B a b).heap[j]? = w.heap[j]? := by
  unfold st2
  rw [Below.heap_setCell _ _ _ j (by simpa using hj), Below.heap_setCell _ _ _ j (by simpa using hj)]
theorem wdF_bd (R : List UInt8 → Int) (enc : Nat) (l : List UInt8) : 0 ≤ (wdF R enc l).2.2.2 ∧ (wdF R enc l).2.2.2 ≤ l.length ∧ ((wdF R enc l).2.2.1 = 0 → (wdF R enc l).2.2.2 = 0) := by
  unfold wdF
  repeat' split
  all_goals first | exact dcF_bd _ _ | exact mdF_bd _
set_option maxRecDepth 100000 in
set_option maxHeartbeats 4000000 in
theorem fwords_any (w : World) (r : Nat) (x : RS) (enc : Nat) (kd fb bu : Int) (g : Bool) (b : ByteArray) (at_ : Int) (hT : TW w) (h : InX w r x) (he : enc < 256) (hb : b.size ≤ 1048576) (ha0 : 0 ≤ at_) (ha1 : at_ ≤ 1152921504606846976) :
    Calls Tryz.prog 104 #[.agg #[.pointer (some ⟨r, 0, none⟩), .int .u8 enc, .int .i64 kd, .int .i64 fb, .bool g, .int .i64 bu], .string b, .int .i64 at_] w
      fun v w' => v = .returned (.tuple #[.string (wordsR (RM fb g) enc x b at_).2.1, .int .i64 (wordsR (RM fb g) enc x b at_).2.2]) ∧ InX w' r (wordsR (RM fb g) enc x b at_).1 ∧ w.grownBy w' (some r) := by
  have hbd := wdF_bd (RM fb g) enc (bl b)
  rw [bl_length] at hbd
  have hu : wordsR (RM fb g) enc x b at_ = if (wdF (RM fb g) enc (bl b)).2.2.1 = 0 then (x, ⟨(wdF (RM fb g) enc (bl b)).2.1.toArray⟩, (wdF (RM fb g) enc (bl b)).1) else (failR x (wdF (RM fb g) enc (bl b)).2.2.1 (at_ + (wdF (RM fb g) enc (bl b)).2.2.2), ⟨#[]⟩, 0) := rfl
  rw [hu]
  clear hu
  obtain ⟨D, hD⟩ : ∃ D, D = wdF (RM fb g) enc (bl b) := ⟨_, rfl⟩
  rw [← hD] at hbd ⊢
  have k1 : ∀ w, TW w → Calls Tryz.prog 134 #[.string b, .string ⟨#[]⟩, .agg #[.int .i64 kd, .int .i64 fb, .bool g, .int .i64 bu]] w fun e w' => e = .returned (.int .i64 (RM fb g (bl b))) ∧ Below w.heap.size w w' := fun w hT => resolve_any b ⟨#[]⟩ kd fb bu g w hT hb (by decide)
  have k2 := fun c w hT => cdec_any c b w hT (by omega)
  have k3 := fun w => wmark_any b w (by omega)
  have k4 := fun w => marked_any b w (by omega)
  obtain ⟨E, hE⟩ : ∃ E : Int, E = (enc : Int) := ⟨_, rfl⟩
  rw [← hE]
  obtain ⟨W, hW⟩ : ∃ W, W = (w.alloc (.cells #[.pointer (some ⟨r, 0, none⟩), .int .u8 E, .int .i64 kd, .int .i64 fb, .bool g, .int .i64 bu] 126)).alloc (.cells #[.int .i64 0, .int .i64 0] 34) := ⟨_, rfl⟩
  have hs1 : (w.alloc (.cells #[.pointer (some ⟨r, 0, none⟩), .int .u8 E, .int .i64 kd, .int .i64 fb, .bool g, .int .i64 bu] 126)).heap.size = w.heap.size + 1 := World.size_alloc _ _
  have S : W.heap[w.heap.size]? = some (.cells #[.pointer (some ⟨r, 0, none⟩), .int .u8 E, .int .i64 kd, .int .i64 fb, .bool g, .int .i64 bu] 126 (0, 0)) := by
    rw [hW]; exact (heap_alloc_old _ _ (by rw [hs1]; omega)).trans (heap_alloc_new _ _)
  have F : W.heap[w.heap.size + 1]? = some (.cells #[.int .i64 0, .int .i64 0] 34 (0, 0)) := by
    rw [hW, ← hs1]; exact heap_alloc_new _ _
  have l1 := (live_of S 1 _ rfl).1
  have l2 := (live_of S 2 _ rfl).1
  have l3 := (live_of S 3 _ rfl).1
  have l4 := (live_of S 4 _ rfl).1
  have l5 := (live_of S 5 _ rfl).1
  have hbW : Below w.heap.size w W := by rw [hW]; exact bal (bal (Below.refl _ _) _) _
  have hTW := hT.bel hbW
  have hIW := h.bel hbW
  have hrl := h.lt
  have hbk := Below.refl W.heap.size W
  rcases (show enc = 0 ∨ (enc = 1 ∧ bigF (bl b) = true) ∨ (enc = 1 ∧ bigF (bl b) = false) ∨ enc = 2 ∨ 2 < enc by cases bigF (bl b) <;> simp <;> omega) with h0 | ⟨h0, hB⟩ | ⟨h0, hB⟩ | h0 | h0
  case' inl =>
    rw [h0] at hD
    have b0 : (E == 0) = true := by rw [beq_iff_eq]; omega
    have hD' : D = (RM fb g (bl b), dcF (RM fb g (bl b)) (bl b)) := hD
    clear hD
    generalize RM fb g (bl b) = c at *
    replace k2 := k2 c
    generalize dcF c (bl b) = d at *
    subst hD'
    obtain ⟨u, e, a⟩ := d
    simp only at k2 hbd ⊢
  case' inr.inl =>
    rw [h0] at hD
    have b0 : (E == 0) = false := by rw [beq_eq_false_iff_ne]; omega
    have b1 : (E == 1) = true := by rw [beq_iff_eq]; omega
    have hD' : D = (9, mdF (bl b)) := by rw [hD]; unfold wdF; rw [if_neg (by decide), if_pos rfl, if_pos hB]
    rw [hB] at k3
    clear hD hB
    generalize mdF (bl b) = d at *
    subst hD'
    obtain ⟨u, e, a⟩ := d
    simp only at k4 hbd ⊢
  case' inr.inr.inl =>
    rw [h0] at hD
    have b0 : (E == 0) = false := by rw [beq_eq_false_iff_ne]; omega
    have b1 : (E == 1) = true := by rw [beq_iff_eq]; omega
    have hD' : D = (8, mdF (bl b)) := by rw [hD]; unfold wdF; rw [if_neg (by decide), if_pos rfl, if_neg (by rw [hB]; decide)]
    rw [hB] at k3
    clear hD hB
    generalize mdF (bl b) = d at *
    subst hD'
    obtain ⟨u, e, a⟩ := d
    simp only at k4 hbd ⊢
  case' inr.inr.inr.inl =>
    rw [h0] at hD
    have b0 : (E == 0) = false := by rw [beq_eq_false_iff_ne]; omega
    have b1 : (E == 1) = false := by rw [beq_eq_false_iff_ne]; omega
    have b2 : (E == 2) = true := by rw [beq_iff_eq]; omega
    have hD' : D = (9, dcF 9 (bl b)) := hD
    replace k2 := k2 9
    clear hD
    generalize dcF 9 (bl b) = d at *
    subst hD'
    obtain ⟨u, e, a⟩ := d
    simp only at k2 hbd ⊢
  case' inr.inr.inr.inr =>
    have hD' : D = (7, dcF 7 (bl b)) := by rw [hD]; unfold wdF; rw [if_neg (by omega), if_neg (by omega), if_neg (by omega)]
    have b0 : (E == 0) = false := by rw [beq_eq_false_iff_ne]; omega
    have b1 : (E == 1) = false := by rw [beq_eq_false_iff_ne]; omega
    have b2 : (E == 2) = false := by rw [beq_eq_false_iff_ne]; omega
    replace k2 := k2 7
    clear hD
    generalize dcF 7 (bl b) = d at *
    subst hD'
    obtain ⟨u, e, a⟩ := d
    simp only at k2 hbd ⊢
  all_goals (
    obtain ⟨e1, e2, e3⟩ := hbd
    have k5 := fun w => bad_any e a w
    have k6 := fun w h => inx_fail w r x e (at_ + a) h
    have hw : IntKind.i64.wrap (at_ + a) = at_ + a := wi64 _ (by omega) (by omega)
    have K1 := Lib.hid k1
    have K2 := Lib.hid k2
    have K3 := Lib.hid k3
    have K4 := Lib.hid k4
    have K5 := Lib.hid k5
    have K6 := Lib.hid k6
    have HBW := Lib.hid hbW
    have HTW := Lib.hid hTW
    have HIW := Lib.hid hIW
    have S0 := Lib.hid S
    have F0 := Lib.hid F
    clear k1 k2 k3 k4 k5 k6 hbW hTW hIW S F
    clear hs1 hT h hE h0
    by_cases he0 : e = 0
    · subst he0
      obtain rfl : a = 0 := e3 rfl
      rw [if_pos rfl]
      go_enter Tryz.func104, Tryz.ntmps104
      go_wp2_with fail
      rw [← hW]
      clear hW e1 e2 e3
      go_wp2_with (first
        | (go_at_call 134; go_loud (with_reducible refine (K1.out _ (HTW.out.bel hbk)).mono ?_); go_loud (rintro e1 w1 ⟨rfl, hb1⟩); go_loud (replace hbk := bt hbk hb1))
        | (go_at_call 148; go_loud (with_reducible refine (K3.out _).mono ?_); go_loud (rintro e1 w1 ⟨rfl, hb1⟩); go_loud (replace hbk := bt hbk hb1))
        | (go_at_call 141; go_loud (with_reducible refine (K4.out _).mono ?_); go_loud (rintro e1 w2 ⟨rfl, hb2⟩); go_loud (replace hbk := bt hbk hb2); go_loud (have F2 := blkB F0.out hbk); go_loud (obtain ⟨q0, q0'⟩ := live_of F2 0 _ rfl); go_loud (obtain ⟨q1, q1'⟩ := live_of F2 1 _ rfl))
        | (go_at_call 135; go_loud (with_reducible refine (K2.out _ (HTW.out.bel hbk)).mono ?_); go_loud (rintro e1 w2 ⟨rfl, hb2⟩); go_loud (replace hbk := bt hbk hb2); go_loud (have F2 := blkB F0.out hbk); go_loud (obtain ⟨q0, q0'⟩ := live_of F2 0 _ rfl); go_loud (obtain ⟨q1, q1'⟩ := live_of F2 1 _ rfl))
        | (go_at_call 16; go_loud (with_reducible refine (K5.out _).mono ?_); go_loud (rintro e1 w3 ⟨rfl, hb3⟩)))
      go_ret2
      refine ⟨rfl, ?_, gr_below (bt (((HBW.out.trans (hbk.mono HBW.out.size)).setCell (by simp) _).setCell (by simp) _) hb3)⟩
      exact InC.bel (InC.blk (HIW.out.bel hbk) (st2_other _ _ _ _ r (by omega))) hb3
    · rw [if_neg he0]
      have hd3 : (!decide (e = 0)) = true := by simpa using he0
      rw [hd3] at K5
      go_enter Tryz.func104, Tryz.ntmps104
      go_wp2_with fail
      rw [← hW]
      clear hW e1 e2 e3 he0 hd3
      go_wp2_with (first
        | (go_at_call 134; go_loud (with_reducible refine (K1.out _ (HTW.out.bel hbk)).mono ?_); go_loud (rintro e1 w1 ⟨rfl, hb1⟩); go_loud (replace hbk := bt hbk hb1))
        | (go_at_call 148; go_loud (with_reducible refine (K3.out _).mono ?_); go_loud (rintro e1 w1 ⟨rfl, hb1⟩); go_loud (replace hbk := bt hbk hb1))
        | (go_at_call 141; go_loud (with_reducible refine (K4.out _).mono ?_); go_loud (rintro e1 w2 ⟨rfl, hb2⟩); go_loud (replace hbk := bt hbk hb2); go_loud (have F2 := blkB F0.out hbk); go_loud (obtain ⟨q0, q0'⟩ := live_of F2 0 _ rfl); go_loud (obtain ⟨q1, q1'⟩ := live_of F2 1 _ rfl))
        | (go_at_call 135; go_loud (with_reducible refine (K2.out _ (HTW.out.bel hbk)).mono ?_); go_loud (rintro e1 w2 ⟨rfl, hb2⟩); go_loud (replace hbk := bt hbk hb2); go_loud (have F2 := blkB F0.out hbk); go_loud (obtain ⟨q0, q0'⟩ := live_of F2 0 _ rfl); go_loud (obtain ⟨q1, q1'⟩ := live_of F2 1 _ rfl))
        | (go_at_call 16; go_loud (with_reducible refine (K5.out _).mono ?_); go_loud (rintro e1 w3 ⟨rfl, hb3⟩); go_loud (have F3 := blkB (st2_blk F2 _ _) hb3); go_loud (have S3 := blkB ((st2_other _ _ _ _ w.heap.size (by omega)).trans (blkB S0.out hbk)) hb3); go_loud (obtain ⟨f0, _⟩ := live_of F3 0 _ rfl); go_loud (obtain ⟨f1, _⟩ := live_of F3 1 _ rfl); go_loud (obtain ⟨s0, _⟩ := live_of S3 0 _ rfl); go_loud (have i3 : InX w3 r x := InC.bel (InC.blk (HIW.out.bel hbk) (st2_other _ _ _ _ r (by omega))) hb3))
        | (go_at_call 83; go_loud (with_reducible refine (K6.out _ i3).mono ?_); go_loud (rintro e1 w4 ⟨rfl, hi4, hg4⟩)))
      go_ret2
      exact ⟨rfl, hi4, gr_trans (gr_below (bt (((HBW.out.trans (hbk.mono HBW.out.size)).setCell (by simp) _).setCell (by simp) _) hb3)) hg4⟩)
end Go.Proofs.YtmfjmgjhfplijaaGreatDoor

namespace Go.Proofs.YtmfjmgjhfplijaaGreatDoor
open Go.RowKit
set_option linter.unusedVariables false
set_option linter.unusedSimpArgs false

def st4 (w : World) (B : Nat) (a b c d : Value) : World := (((w.setCell ⟨B, 0, none⟩ a).setCell ⟨B, 1, none⟩ b).setCell ⟨B, 2, none⟩ c).setCell ⟨B, 3, none⟩ d
theorem st4_blk {w : World} {B : Nat} {t : TypeId} {x y z u : Value} (h : w.heap[B]? = some (.cells #[x, y, z, u] t (0, 0))) (a b c d : Value) : (st4 w B a b c d).heap[B]? = some (.cells #[a, b, c, d] t (0, 0)) := by
  have h0 := Go.Lib.heap_setCell_same (i := 0) h a
  have h1 := Go.Lib.heap_setCell_same (i := 1) h0 b
  have h2 := Go.Lib.heap_setCell_same (i := 2) h1 c
  have h3 := Go.Lib.heap_setCell_same (i := 3) h2 d
  unfold st4
  rw [h3]
  simp
theorem st4_other (w : World) (B : Nat) (a b c d : Value) (j : Nat) (hj : j ≠ B) : (st4 w B a b c d).heap[j]? = w.heap[j]? := by
  unfold st4
  rw [Below.heap_setCell _ _ _ j (by simpa using hj), Below.heap_setCell _ _ _ j (by simpa using hj), Below.heap_setCell _ _ _ j (by simpa using hj), Below.heap_setCell _ _ _ j (by simpa using hj)]
theorem set_other (w : World) (B o : Nat) (v : Value) (j : Nat) (hj : j ≠ B) : (w.setCell ⟨B, o, none⟩ v).heap[j]? = w.heap[j]? := Below.heap_setCell _ _ _ j (by simpa using hj)
/-- a scan's cells. -/
theorem scF {w : World} {H : Nat} {p : Value} {enc kd fb bu : Int} {g : Bool} (h : w.heap[H]? = some (.cells #[p, .int .u8 enc, .int .i64 kd, .int .i64 fb, .bool g, .int .i64 bu] 126 (0, 0))) :
    w.cell? ⟨H, 0, none⟩ = some p ∧ w.cell? ⟨H, 1, none⟩ = some (.int .u8 enc) ∧ w.cell? ⟨H, 2, none⟩ = some (.int .i64 kd) ∧ w.cell? ⟨H, 3, none⟩ = some (.int .i64 fb) ∧ w.cell? ⟨H, 4, none⟩ = some (.bool g) ∧ w.cell? ⟨H, 5, none⟩ = some (.int .i64 bu) :=
  ⟨(live_of h 0 _ rfl).1, (live_of h 1 _ rfl).1, (live_of h 2 _ rfl).1, (live_of h 3 _ rfl).1, (live_of h 4 _ rfl).1, (live_of h 5 _ rfl).1⟩
/-- a piece's cells. -/
theorem ptF {w : World} {H : Nat} {a b c d : Value} (h : w.heap[H]? = some (.cells #[a, b, c, d] 60 (0, 0))) :
    w.cell? ⟨H, 0, none⟩ = some a ∧ w.frozen? ⟨H, 0, none⟩ = false ∧ w.cell? ⟨H, 1, none⟩ = some b ∧ w.frozen? ⟨H, 1, none⟩ = false ∧ w.cell? ⟨H, 2, none⟩ = some c ∧ w.frozen? ⟨H, 2, none⟩ = false ∧ w.cell? ⟨H, 3, none⟩ = some d ∧ w.frozen? ⟨H, 3, none⟩ = false :=
  ⟨(live_of h 0 _ rfl).1, (live_of h 0 _ rfl).2, (live_of h 1 _ rfl).1, (live_of h 1 _ rfl).2, (live_of h 2 _ rfl).1, (live_of h 2 _ rfl).2, (live_of h 3 _ rfl).1, (live_of h 3 _ rfl).2⟩
theorem piece_end {w wz : World} {r : Nat} {y : RS} (hg : w.grownBy wz (some r)) (hi : InX wz r y) (hr : r < w.heap.size) (a b c d : Value) :
    InX (st4 wz (w.heap.size + 1) a b c d) r y ∧ w.grownBy (st4 wz (w.heap.size + 1) a b c d) (some r) :=
  ⟨InC.blk hi (st4_other _ _ _ _ _ _ r (by omega)), gr_setN (gr_setN (gr_setN (gr_setN hg (by simp) _) (by simp) _) (by simp) _) (by simp) _⟩
set_option maxRecDepth 100000 in
set_option maxHeartbeats 2000000 in
/-- a piece of bytes. -/
theorem fpiece_raw (w : World) (r : Nat) (x : RS) (enc : Nat) (kd fb bu : Int) (g : Bool) (c : UInt8) (h : InX w r x) (hk : okR x) (hc : c = 108 ∨ c = 102 ∨ c = 107 ∨ c = 122 ∨ c = 114) :
    Calls Tryz.prog 55 #[.agg #[.pointer (some ⟨r, 0, none⟩), .int .u8 enc, .int .i64 kd, .int .i64 fb, .bool g, .int .i64 bu], .int .u8 (c.toNat : Int)] w
      fun v w' => v = .returned (.agg #[.string (pieceR (RM fb g) enc x c).2.name, .bool (pieceR (RM fb g) enc x c).2.raw, .string (pieceR (RM fb g) enc x c).2.text, .int .i64 (pieceR (RM fb g) enc x c).2.set]) ∧ InX w' r (pieceR (RM fb g) enc x c).1 ∧ w.grownBy w' (some r) := by
  have k0 := fun w => fname_any c w (by rcases hc with rfl | rfl | rfl | rfl | rfl <;> decide)
  have k1 := fun w h => inx_at w r x h hk
  obtain ⟨W, hW⟩ : ∃ W, W = (w.alloc (.cells #[.pointer (some ⟨r, 0, none⟩), .int .u8 enc, .int .i64 kd, .int .i64 fb, .bool g, .int .i64 bu] 126)).alloc (.cells #[.string ⟨#[]⟩, .bool false, .string ⟨#[]⟩, .int .i64 0] 60) := ⟨_, rfl⟩
  have hs1 : (w.alloc (.cells #[.pointer (some ⟨r, 0, none⟩), .int .u8 enc, .int .i64 kd, .int .i64 fb, .bool g, .int .i64 bu] 126)).heap.size = w.heap.size + 1 := World.size_alloc _ _
  have S : W.heap[w.heap.size]? = some (.cells #[.pointer (some ⟨r, 0, none⟩), .int .u8 enc, .int .i64 kd, .int .i64 fb, .bool g, .int .i64 bu] 126 (0, 0)) := by
    rw [hW]; exact (heap_alloc_old _ _ (by rw [hs1]; omega)).trans (heap_alloc_new _ _)
  have F : W.heap[w.heap.size + 1]? = some (.cells #[.string ⟨#[]⟩, .bool false, .string ⟨#[]⟩, .int .i64 0] 60 (0, 0)) := by
    rw [hW, ← hs1]; exact heap_alloc_new _ _
  have hWs : W.heap.size = w.heap.size + 2 := by rw [hW, World.size_alloc, hs1]
  have hbW : Below w.heap.size w W := by rw [hW]; exact bal (bal (Below.refl _ _) _) _
  have hIW := h.bel hbW
  have hrl := h.lt
  rcases hc with rfl | rfl | rfl | rfl | rfl
  case' inl =>
    have hP : pieceR (RM fb g) enc x 108 = ((takeR x 3).1, ⟨nameF 108, true, (takeR x 3).2, 0⟩) := by unfold pieceR rawR; rw [if_neg (by decide), if_pos (.inl rfl)]
    rw [hP]
    have hn : (((108 : UInt8).toNat : Nat) : Int) = 108 := rfl
    rw [hn] at k0 ⊢
    have k7 := fun w h => inx_take w r x 3 h hk (by decide) (by decide)
    generalize nameF 108 = nm at *
    generalize takeR x 3 = Y at *
  case' inr.inl =>
    have hP : pieceR (RM fb g) enc x 102 = ((takeR x 3).1, ⟨nameF 102, true, (takeR x 3).2, 0⟩) := by unfold pieceR rawR; rw [if_neg (by decide), if_pos (.inr rfl)]
    rw [hP]
    have hn : (((102 : UInt8).toNat : Nat) : Int) = 102 := rfl
    rw [hn] at k0 ⊢
    have k7 := fun w h => inx_take w r x 3 h hk (by decide) (by decide)
    generalize nameF 102 = nm at *
    generalize takeR x 3 = Y at *
  case' inr.inr.inl =>
    have hP : pieceR (RM fb g) enc x 107 = ((takeR x 1).1, ⟨nameF 107, true, (takeR x 1).2, 0⟩) := by unfold pieceR rawR; rw [if_neg (by decide), if_neg (by decide), if_pos rfl]
    rw [hP]
    have hn : (((107 : UInt8).toNat : Nat) : Int) = 107 := rfl
    rw [hn] at k0 ⊢
    have k7 := fun w h => inx_take w r x 1 h hk (by decide) (by decide)
    generalize nameF 107 = nm at *
    generalize takeR x 1 = Y at *
  case' inr.inr.inr.inl =>
    have hP : pieceR (RM fb g) enc x 122 = ((untilR x [0]).1, ⟨nameF 122, true, (untilR x [0]).2, 0⟩) := by unfold pieceR rawR; rw [if_neg (by decide), if_neg (by decide), if_neg (by decide), if_pos rfl]
    rw [hP]
    have hn : (((122 : UInt8).toNat : Nat) : Int) = 122 := rfl
    rw [hn] at k0 ⊢
    have k7 := fun w h => inx_until w r x ⟨#[0]⟩ h hk (by decide) (by decide)
    rw [show bl ⟨#[0]⟩ = [0] from rfl] at k7
    generalize nameF 122 = nm at *
    generalize untilR x [0] = Y at *
  case' inr.inr.inr.inr =>
    have hP : pieceR (RM fb g) enc x 114 = ((takeR x (leftR x)).1, ⟨nameF 114, true, (takeR x (leftR x)).2, 0⟩) := by unfold pieceR rawR; rw [if_neg (by decide), if_neg (by decide), if_neg (by decide), if_neg (by decide), if_neg (by decide)]
    rw [hP]
    have hn : (((114 : UInt8).toNat : Nat) : Int) = 114 := rfl
    rw [hn] at k0 ⊢
    have k7 := fun w h => inx_rest w r x h hk
    generalize nameF 114 = nm at *
    generalize takeR x (leftR x) = Y at *
  all_goals (
    obtain ⟨y, t⟩ := Y
    simp only at k7 ⊢
    have K0 := Lib.hid k0
    have K1 := Lib.hid k1
    have K7 := Lib.hid k7
    have HBW := Lib.hid hbW
    have HIW := Lib.hid hIW
    have S0 := Lib.hid S
    have F0 := Lib.hid F
    have HWS := Lib.hid hWs
    clear k0 k1 k7 hbW hIW S F hWs
    clear hP hn hs1 h hk
    go_enter Tryz.func55, Tryz.ntmps55
    go_wp2_with fail
    rw [← hW]
    clear hW
    go_wp2_with (first
      | (go_at_call 53; go_loud (with_reducible refine (K0.out _).mono ?_); go_loud (rintro e1 w1 ⟨rfl, hb1⟩); go_loud (have hb2 := bal hb1 (.cells #[.string nm, .bool true, .string ⟨#[]⟩, .int .i64 0] 60)); go_loud (have P2 := heap_alloc_new w1 (.cells #[.string nm, .bool true, .string ⟨#[]⟩, .int .i64 0] 60)); go_loud (have S2 := blkB S0.out hb2); go_loud (obtain ⟨s0, _⟩ := scF S2); go_loud (have i2 := HIW.out.bel hb2); go_loud (have hz1 := hb1.size); go_loud (rw [HWS.out] at hz1))
      | (go_at_call 35; go_loud (with_reducible refine (K1.out _ i2).mono ?_); go_loud (rintro e1 w3 ⟨rfl, hb3⟩); go_loud (have hbz := bt hb2 hb3); go_loud (have P3 := blkB P2 hb3); go_loud (have S3 := blkB S2 hb3); go_loud (obtain ⟨t0, _⟩ := scF S3); go_loud (have i3 := i2.bel hb3))
      | (go_at_call 37; go_loud (with_reducible refine (K7.out _ i3).mono ?_); go_loud (rintro e1 w4 ⟨rfl, i4, hg4⟩); go_loud (have P4 := blkG P3 hg4 (by omega)); go_loud (have F4 := blkG (blkB F0.out hbz) hg4 (by omega)); go_loud (obtain ⟨p0, p0', p1, p1', p2, p2', p3, p3'⟩ := ptF P4); go_loud (obtain ⟨m0, m0', m1, m1', m2, m2', m3, m3'⟩ := ptF F4))
      | (go_at_call 103; go_loud (with_reducible refine (K7.out _ i3).mono ?_); go_loud (rintro e1 w4 ⟨rfl, i4, hg4⟩); go_loud (have P4 := blkG P3 hg4 (by omega)); go_loud (have F4 := blkG (blkB F0.out hbz) hg4 (by omega)); go_loud (obtain ⟨p0, p0', p1, p1', p2, p2', p3, p3'⟩ := ptF P4); go_loud (obtain ⟨m0, m0', m1, m1', m2, m2', m3, m3'⟩ := ptF F4))
      | (go_at_call 42; go_loud (with_reducible refine (K7.out _ i3).mono ?_); go_loud (rintro e1 w4 ⟨rfl, i4, hg4⟩); go_loud (have P4 := blkG P3 hg4 (by omega)); go_loud (have F4 := blkG (blkB F0.out hbz) hg4 (by omega)); go_loud (obtain ⟨p0, p0', p1, p1', p2, p2', p3, p3'⟩ := ptF P4); go_loud (obtain ⟨m0, m0', m1, m1', m2, m2', m3, m3'⟩ := ptF F4)))
    have F5 := (set_other w4 w1.heap.size 2 (.string t) (w.heap.size + 1) (by omega)).trans F4
    obtain ⟨j1, j2⟩ := piece_end (gr_setN (gr_trans (gr_below (HBW.out.trans (hbz.mono HBW.out.size))) hg4) (by simp only; omega) _) (InC.blk i4 (set_other w4 w1.heap.size 2 (.string t) r (by omega))) hrl (.string nm) (.bool true) (.string t) (.int .i64 0)
    obtain ⟨e0, _, e1, _, e2, _, e3, _⟩ := ptF (st4_blk F5 (.string nm) (.bool true) (.string t) (.int .i64 0))
    change bodyPost _ _ _ _ _ (st4 (w4.setCell ⟨w1.heap.size, 2, none⟩ (.string t)) (w.heap.size + 1) (.string nm) (.bool true) (.string t) (.int .i64 0))
    clear F5 F4 P4 m0 m0' m1 m1' m2 m2' m3 m3' p0 p0' p1 p1' p2 p2' p3 p3'
    generalize st4 (w4.setCell ⟨w1.heap.size, 2, none⟩ (.string t)) (w.heap.size + 1) (.string nm) (.bool true) (.string t) (.int .i64 0) = W9 at *
    refine bodyPost_ret (v := .agg #[.string nm, .bool true, .string t, .int .i64 0]) (by simp [results, Tryz.results55, go_sem, e0, e1, e2, e3]) rfl ?_
    exact ⟨rfl, j1, j2⟩)
end Go.Proofs.YtmfjmgjhfplijaaGreatDoor

namespace Go.Proofs.YtmfjmgjhfplijaaGreatDoor
open Go.RowKit
set_option linter.unusedVariables false
set_option linter.unusedSimpArgs false

set_option maxRecDepth 100000 in
set_option maxHeartbeats 1000000 in
/-- a piece that is a text. -/
theorem fpiece_text (w : World) (r : Nat) (x : RS) (enc : Nat) (kd fb bu : Int) (g : Bool) (c : UInt8) (hT : TW w) (hr : 4 ≤ r) (h : InX w r x) (hk : okR x) (hs : x.s.size ≤ 1048576) (he : enc < 256) (hc : c = 100 ∨ c = 116) :
    Calls Tryz.prog 55 #[.agg #[.pointer (some ⟨r, 0, none⟩), .int .u8 enc, .int .i64 kd, .int .i64 fb, .bool g, .int .i64 bu], .int .u8 (c.toNat : Int)] w
      fun v w' => v = .returned (.agg #[.string (pieceR (RM fb g) enc x c).2.name, .bool (pieceR (RM fb g) enc x c).2.raw, .string (pieceR (RM fb g) enc x c).2.text, .int .i64 (pieceR (RM fb g) enc x c).2.set]) ∧ InX w' r (pieceR (RM fb g) enc x c).1 ∧ w.grownBy w' (some r) := by
  have k0 := fun w => fname_any c w (by rcases hc with rfl | rfl <;> decide)
  have k1 := fun w h => inx_at w r x h hk
  have k2 := fun w => fend_any (.pointer (some ⟨r, 0, none⟩)) enc kd fb bu g w he
  have hat : 0 ≤ (x.b : Int) + x.n ∧ (x.b : Int) + x.n ≤ 1152921504606846976 := by obtain ⟨h1, h2, h3⟩ := hk; omega
  obtain ⟨W, hW⟩ : ∃ W, W = (w.alloc (.cells #[.pointer (some ⟨r, 0, none⟩), .int .u8 enc, .int .i64 kd, .int .i64 fb, .bool g, .int .i64 bu] 126)).alloc (.cells #[.string ⟨#[]⟩, .bool false, .string ⟨#[]⟩, .int .i64 0] 60) := ⟨_, rfl⟩
  have hs1 : (w.alloc (.cells #[.pointer (some ⟨r, 0, none⟩), .int .u8 enc, .int .i64 kd, .int .i64 fb, .bool g, .int .i64 bu] 126)).heap.size = w.heap.size + 1 := World.size_alloc _ _
  have S : W.heap[w.heap.size]? = some (.cells #[.pointer (some ⟨r, 0, none⟩), .int .u8 enc, .int .i64 kd, .int .i64 fb, .bool g, .int .i64 bu] 126 (0, 0)) := by
    rw [hW]; exact (heap_alloc_old _ _ (by rw [hs1]; omega)).trans (heap_alloc_new _ _)
  have F : W.heap[w.heap.size + 1]? = some (.cells #[.string ⟨#[]⟩, .bool false, .string ⟨#[]⟩, .int .i64 0] 60 (0, 0)) := by
    rw [hW, ← hs1]; exact heap_alloc_new _ _
  have hWs : W.heap.size = w.heap.size + 2 := by rw [hW, World.size_alloc, hs1]
  have hbW : Below w.heap.size w W := by rw [hW]; exact bal (bal (Below.refl _ _) _) _
  have hIW := h.bel hbW
  have hrl := h.lt
  have hyl := rawR_len enc x c
  rcases hc with rfl | rfl
  case' inl =>
    have hr0 : rawR enc x 100 = untilR x (endB enc) := by unfold rawR; rw [if_neg (by decide), if_neg (by decide), if_neg (by decide), if_pos rfl]
    have hP : pieceR (RM fb g) enc x 100 = ((wordsR (RM fb g) enc (rawR enc x 100).1 (rawR enc x 100).2 ((x.b : Int) + x.n)).1, ⟨nameF 100, false, (wordsR (RM fb g) enc (rawR enc x 100).1 (rawR enc x 100).2 ((x.b : Int) + x.n)).2.1, (wordsR (RM fb g) enc (rawR enc x 100).1 (rawR enc x 100).2 ((x.b : Int) + x.n)).2.2⟩) := by unfold pieceR; rw [if_pos (show isT 100 = true from rfl)]
    rw [hP]
    have hn : (((100 : UInt8).toNat : Nat) : Int) = 100 := rfl
    rw [hn] at k0 ⊢
    have k3 := fun w h => inx_until w r x ⟨(endB enc).toArray⟩ h hk (by unfold endB; split <;> decide) (by unfold endB; split <;> decide)
    rw [show bl ⟨(endB enc).toArray⟩ = endB enc by simp [bl], ← hr0] at k3
    generalize nameF 100 = nm at *
    generalize rawR enc x 100 = Y at *
  case' inr =>
    have hr0 : rawR enc x 116 = takeR x (leftR x) := by unfold rawR; rw [if_neg (by decide), if_neg (by decide), if_neg (by decide), if_neg (by decide)]
    have hP : pieceR (RM fb g) enc x 116 = ((wordsR (RM fb g) enc (rawR enc x 116).1 (rawR enc x 116).2 ((x.b : Int) + x.n)).1, ⟨nameF 116, false, (wordsR (RM fb g) enc (rawR enc x 116).1 (rawR enc x 116).2 ((x.b : Int) + x.n)).2.1, (wordsR (RM fb g) enc (rawR enc x 116).1 (rawR enc x 116).2 ((x.b : Int) + x.n)).2.2⟩) := by unfold pieceR; rw [if_pos (show isT 116 = true from rfl)]
    rw [hP]
    have hn : (((116 : UInt8).toNat : Nat) : Int) = 116 := rfl
    rw [hn] at k0 ⊢
    have k3 := fun w h => inx_rest w r x h hk
    rw [← hr0] at k3
    generalize nameF 116 = nm at *
    generalize rawR enc x 116 = Y at *
  all_goals (
    obtain ⟨y, t⟩ := Y
    simp only at k3 hyl ⊢
    have k4 := fun w hT h => fwords_any w r y enc kd fb bu g t ((x.b : Int) + x.n) hT h he (by omega) hat.1 hat.2
    generalize wordsR (RM fb g) enc y t ((x.b : Int) + x.n) = Z at *
    obtain ⟨z, u, cs⟩ := Z
    simp only at k4 ⊢
    have eE : (⟨(endB enc).toArray⟩ : ByteArray) = ⟨(endB enc).toArray⟩ := rfl
    generalize (⟨(endB enc).toArray⟩ : ByteArray) = E at *
    have K0 := Lib.hid k0
    have K1 := Lib.hid k1
    have K2 := Lib.hid k2
    have K3 := Lib.hid k3
    have K4 := Lib.hid k4
    have HBW := Lib.hid hbW
    have HIW := Lib.hid hIW
    have S0 := Lib.hid S
    have F0 := Lib.hid F
    have HWS := Lib.hid hWs
    have HT := Lib.hid hT
    clear k0 k1 k2 k3 k4 hbW hIW S F hWs hT
    clear hP hn hs1 h hk hr0 eE hat hyl hs
    go_enter Tryz.func55, Tryz.ntmps55
    go_wp2_with fail
    rw [← hW]
    clear hW
    go_wp2_with (first
      | (go_at_call 53; go_loud (with_reducible refine (K0.out _).mono ?_); go_loud (rintro e1 w1 ⟨rfl, hb1⟩); go_loud (have hb2 := bal hb1 (.cells #[.string nm, .bool true, .string ⟨#[]⟩, .int .i64 0] 60)); go_loud (have P2 := heap_alloc_new w1 (.cells #[.string nm, .bool true, .string ⟨#[]⟩, .int .i64 0] 60)); go_loud (have S2 := blkB S0.out hb2); go_loud (obtain ⟨s0, _⟩ := scF S2); go_loud (have i2 := HIW.out.bel hb2); go_loud (have hz1 := hb1.size); go_loud (rw [HWS.out] at hz1))
      | (go_at_call 35; go_loud (with_reducible refine (K1.out _ i2).mono ?_); go_loud (rintro e1 w3 ⟨rfl, hb3⟩); go_loud (have hbz := bt hb2 hb3); go_loud (have P3 := blkB P2 hb3); go_loud (have S3 := blkB S2 hb3); go_loud (obtain ⟨p0, p0', p1, p1', p2, p2', p3, p3'⟩ := ptF P3); go_loud (have i3 := i2.bel hb3))
      | fail)
    have S3a := (set_other w3 w1.heap.size 1 (.bool false) w.heap.size (by omega)).trans S3
    have P3a : (w3.setCell ⟨w1.heap.size, 1, none⟩ (.bool false)).heap[w1.heap.size]? = some (.cells #[.string nm, .bool false, .string ⟨#[]⟩, .int .i64 0] 60 (0, 0)) := by
      rw [Go.Lib.heap_setCell_same (i := 1) P3 (.bool false)]; simp
    have i3a : InX (w3.setCell ⟨w1.heap.size, 1, none⟩ (.bool false)) r x := InC.blk i3 (set_other _ _ _ _ r (by omega))
    have F3a := (set_other w3 w1.heap.size 1 (.bool false) (w.heap.size + 1) (by omega)).trans (blkB F0.out hbz)
    have hb3a : Below w.heap.size w (w3.setCell ⟨w1.heap.size, 1, none⟩ (.bool false)) := (HBW.out.trans (hbz.mono HBW.out.size)).setCell (by simp only; omega) _
    clear p0 p0' p1 p1' p2 p2' p3 p3' s0 P3 S3 P2 S2
    generalize w3.setCell ⟨w1.heap.size, 1, none⟩ (.bool false) = wA at *
    go_region_held3 (fun w' => w'.cell? ⟨w.heap.size, 0, none⟩ = some (.pointer (some ⟨r, 0, none⟩)) ∧ w'.cell? ⟨w.heap.size, 1, none⟩ = some (.int .u8 enc) ∧ w'.cell? ⟨w.heap.size, 2, none⟩ = some (.int .i64 kd) ∧ w'.cell? ⟨w.heap.size, 3, none⟩ = some (.int .i64 fb) ∧ w'.cell? ⟨w.heap.size, 4, none⟩ = some (.bool g) ∧ w'.cell? ⟨w.heap.size, 5, none⟩ = some (.int .i64 bu))
      (first | exact scF S3a | exact scF S5 | exact scF S6 | exact scF S7 | exact scF ((set_other _ _ _ _ _ (by omega)).trans S7) | exact scF ((set_other _ _ _ _ _ (by omega)).trans ((set_other _ _ _ _ _ (by omega)).trans S7)) | go_keep)
      (first
        | (go_at_call 59; go_loud (refine (K2.out _).mono ?_); go_loud (rintro e2 w5 ⟨rfl, hb5'⟩); go_loud (have hb5 : Below wA.heap.size wA w5 := by first | exact hb5' | exact bt (Below.refl _ _).drew hb5'); go_loud (have S5 := blkB S3a hb5); go_loud (have P5 := blkB P3a hb5); go_loud (have F5 := blkB F3a hb5); go_loud (have i5 := i3a.bel hb5); go_loud (have hbw5 := bt hb3a hb5))
        | (go_at_call 103; go_loud (refine (K3.out _ i5).mono ?_); go_loud (rintro e3 w6 ⟨rfl, i6, hg6⟩); go_loud (have S6 := blkG S5 hg6 (by omega)); go_loud (have P6 := blkG P5 hg6 (by omega)); go_loud (have F6 := blkG F5 hg6 (by omega)); go_loud (have hgw6 := gr_trans (gr_below hbw5) hg6); go_loud (have T6 := HT.out.grown hgw6 (by intro k hk; cases hk; exact hr)))
        | (go_at_call 42; go_loud (refine (K3.out _ ?_).mono ?_); go_loud (first | exact i3a | exact i3a.bel (Below.refl _ _).drew); go_loud (rintro e3 w6 ⟨rfl, i6, hg6'⟩); go_loud (have hg6 : wA.grownBy w6 (some r) := by first | exact hg6' | exact gr_trans (gr_below (Below.refl _ _).drew) hg6'); go_loud (have S6 := blkG S3a hg6 (by omega)); go_loud (have P6 := blkG P3a hg6 (by omega)); go_loud (have F6 := blkG F3a hg6 (by omega)); go_loud (have hgw6 := gr_trans (gr_below hb3a) hg6); go_loud (have T6 := HT.out.grown hgw6 (by intro k hk; cases hk; exact hr)))
        | (go_at_call 104; go_loud (refine (K4.out _ T6 i6).mono ?_); go_loud (rintro e4 w7 ⟨rfl, i7, hg7⟩); go_loud (have S7 := blkG S6 hg7 (by omega)); go_loud (have P7 := blkG P6 hg7 (by omega)); go_loud (have F7 := blkG F6 hg7 (by omega)); go_loud (have hgw7 := gr_trans hgw6 hg7); go_loud (obtain ⟨p0, p0', p1, p1', p2, p2', p3, p3'⟩ := ptF P7)))
    clear p0 p0' p1 p1' p2 p2' p3 p3'
    have P8 : ((w7.setCell ⟨w1.heap.size, 2, none⟩ (.string u)).setCell ⟨w1.heap.size, 3, none⟩ (.int .i64 cs)).heap[w1.heap.size]? = some (.cells #[.string nm, .bool false, .string u, .int .i64 cs] 60 (0, 0)) := by
      rw [Go.Lib.heap_setCell_same (i := 3) (Go.Lib.heap_setCell_same (i := 2) P7 (.string u)) (.int .i64 cs)]; simp
    have F8 := (set_other (w7.setCell ⟨w1.heap.size, 2, none⟩ (.string u)) w1.heap.size 3 (.int .i64 cs) (w.heap.size + 1) (by omega)).trans ((set_other w7 w1.heap.size 2 (.string u) (w.heap.size + 1) (by omega)).trans F7)
    have i8 : InX ((w7.setCell ⟨w1.heap.size, 2, none⟩ (.string u)).setCell ⟨w1.heap.size, 3, none⟩ (.int .i64 cs)) r z := InC.blk i7 ((set_other _ _ _ _ r (by omega)).trans (set_other _ _ _ _ r (by omega)))
    have hg8 : w.grownBy ((w7.setCell ⟨w1.heap.size, 2, none⟩ (.string u)).setCell ⟨w1.heap.size, 3, none⟩ (.int .i64 cs)) (some r) := gr_setN (gr_setN hgw7 (by simp only; omega) _) (by simp only; omega) _
    clear P7 F7 S7 i7 hgw7 hg7
    generalize (w7.setCell ⟨w1.heap.size, 2, none⟩ (.string u)).setCell ⟨w1.heap.size, 3, none⟩ (.int .i64 cs) = W8 at *
    obtain ⟨p0, p0', p1, p1', p2, p2', p3, p3'⟩ := ptF P8
    obtain ⟨m0, m0', m1, m1', m2, m2', m3, m3'⟩ := ptF F8
    go_wp2_with fail
    obtain ⟨j1, j2⟩ := piece_end hg8 i8 hrl (.string nm) (.bool false) (.string u) (.int .i64 cs)
    obtain ⟨e0, _, e1, _, e2, _, e3, _⟩ := ptF (st4_blk F8 (.string nm) (.bool false) (.string u) (.int .i64 cs))
    change bodyPost _ _ _ _ _ (st4 W8 (w.heap.size + 1) (.string nm) (.bool false) (.string u) (.int .i64 cs))
    clear F8 P8 m0 m0' m1 m1' m2 m2' m3 m3' p0 p0' p1 p1' p2 p2' p3 p3'
    generalize st4 W8 (w.heap.size + 1) (.string nm) (.bool false) (.string u) (.int .i64 cs) = W9 at *
    refine bodyPost_ret (v := .agg #[.string nm, .bool false, .string u, .int .i64 cs]) (by simp [results, Tryz.results55, go_sem, e0, e1, e2, e3]) rfl ?_
    exact ⟨rfl, j1, j2⟩)
end Go.Proofs.YtmfjmgjhfplijaaGreatDoor

