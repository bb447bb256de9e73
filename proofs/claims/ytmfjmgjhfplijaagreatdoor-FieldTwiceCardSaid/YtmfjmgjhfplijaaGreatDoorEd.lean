/- Fc, Fv, Fj -/
import Derived.Deep.RegionHeld3
import Derived.Test.YtmfjmgjhfplijaaGreatDoorEc
import Derived.Test.YtmfjmgjhfplijaaGreatDoorEb
import Derived.Test.YtmfjmgjhfplijaaGreatDoorEa
import Derived.Test.YtmfjmgjhfplijaaGreatDoorMCi
import Derived.Test.YtmfjmgjhfplijaaGreatDoorMSk
import Derived.Test.YtmfjmgjhfplijaaGreatDoorMZA
import Derived.Test.YtmfjmgjhfplijaaGreatDoorMPo
import Derived.Test.YtmfjmgjhfplijaaGreatDoorMOx
import Derived.Test.YtmfjmgjhfplijaaGreatDoorMBj
import Derived.Test.YtmfjmgjhfplijaaGreatDoorMPu
import Derived.Test.YtmfjmgjhfplijaaGreatDoorMCk
import Derived.Test.YtmfjmgjhfplijaaGreatDoorMRx
import Derived.Test.YtmfjmgjhfplijaaGreatDoorMTm
import Derived.Test.YtmfjmgjhfplijaaGreatDoorMCp
import Derived.Test.YtmfjmgjhfplijaaGreatDoorMFb
import Derived.Test.YtmfjmgjhfplijaaGreatDoorMCy
import Derived.Test.YtmfjmgjhfplijaaGreatDoorMTv
import Derived.Test.YtmfjmgjhfplijaaGreatDoorMFy
import Derived.Test.YtmfjmgjhfplijaaGreatDoorMAy
import Derived.Deep.CutRange
namespace Go.Proofs.YtmfjmgjhfplijaaGreatDoor
open Go.RowKit
set_option linter.unusedVariables false
set_option linter.unusedSimpArgs false

def fcells (l : List PF) : List Value := l.flatMap fun p => [.string p.name, .bool p.raw, .string p.text, .int .i64 p.set]
theorem fcells_append (l m : List PF) : fcells (l ++ m) = fcells l ++ fcells m := by simp [fcells]
theorem fcells_snoc (l : List PF) (p : PF) : fcells (l ++ [p]) = fcells l ++ (#[.string p.name, .bool p.raw, .string p.text, .int .i64 p.set] : Array Value).toList := by rw [fcells_append]; rfl
theorem fcells_at (l : List PF) (i : Nat) (p : PF) (h : l[i]? = some p) : (fcells l)[i * 4]? = some (.string p.name) ∧ (fcells l)[i * 4 + 1]? = some (.bool p.raw) ∧ (fcells l)[i * 4 + 2]? = some (.string p.text) ∧ (fcells l)[i * 4 + 3]? = some (.int .i64 p.set) := by
  induction l generalizing i with
  | nil => simp at h
  | cons m l ih =>
    cases i with
    | zero =>
      simp at h
      subst h
      exact ⟨rfl, rfl, rfl, rfl⟩
    | succ i =>
      have := ih i (by simpa using h)
      have e : fcells (m :: l) = [.string m.name, .bool m.raw, .string m.text, .int .i64 m.set] ++ fcells l := rfl
      have e4 : ([Value.string m.name, .bool m.raw, .string m.text, .int .i64 m.set] : List Value).length = 4 := rfl
      rw [e]
      refine ⟨?_, ?_, ?_, ?_⟩
      all_goals rw [List.getElem?_append_right (by rw [e4]; omega), e4]
      · rw [show (i + 1) * 4 - 4 = i * 4 by omega]; exact this.1
      · rw [show (i + 1) * 4 + 1 - 4 = i * 4 + 1 by omega]; exact this.2.1
      · rw [show (i + 1) * 4 + 2 - 4 = i * 4 + 2 by omega]; exact this.2.2.1
      · rw [show (i + 1) * 4 + 3 - 4 = i * 4 + 3 by omega]; exact this.2.2.2
/-- the cells of a piece in its row. -/
theorem pt_at {w : World} {av : Option Addr} {l : List PF} (hc : ∀ (j : Nat) (x : Value), (fcells l)[j]? = some x → ∃ g o, av = some ⟨g, o, none⟩ ∧ w.cell? ⟨g, o + j, none⟩ = some x) (k : Nat) (p : PF) (hk : l[k]? = some p) :
    ∃ g o, av = some ⟨g, o, none⟩ ∧ w.cell? ⟨g, o + k * 4, none⟩ = some (.string p.name) ∧ w.cell? ⟨g, o + k * 4 + 1, none⟩ = some (.bool p.raw) ∧ w.cell? ⟨g, o + k * 4 + 2, none⟩ = some (.string p.text) ∧ w.cell? ⟨g, o + k * 4 + 3, none⟩ = some (.int .i64 p.set) := by
  obtain ⟨h0, h1, h2, h3⟩ := fcells_at l k p hk
  obtain ⟨g, o, rfl, c0⟩ := hc _ _ h0
  obtain ⟨g', o', e, c1⟩ := hc _ _ h1
  simp only [Option.some.injEq, Addr.mk.injEq, and_true] at e
  obtain ⟨rfl, rfl⟩ := e
  obtain ⟨g', o', e, c2⟩ := hc _ _ h2
  simp only [Option.some.injEq, Addr.mk.injEq, and_true] at e
  obtain ⟨rfl, rfl⟩ := e
  obtain ⟨g', o', e, c3⟩ := hc _ _ h3
  simp only [Option.some.injEq, Addr.mk.injEq, and_true] at e
  obtain ⟨rfl, rfl⟩ := e
  exact ⟨g, o, rfl, c0, c1, c2, c3⟩
theorem nz_index : ∀ l : List UInt8, nz l = true → Lib.indexByte l 0 = -1
  | [], _ => rfl
  | b :: l, h => by
    unfold nz at h
    rw [List.all_cons, Bool.and_eq_true, bne_iff_ne] at h
    have ih := nz_index l h.2
    simp only [Lib.indexByte]
    rw [ih]
    simp [h.1]
set_option maxRecDepth 100000 in
set_option maxHeartbeats 4000000 in
theorem fwrong_any (c : UInt8) (p : PF) (w : World) (hT : TW w) (hc : c ∈ letF) (hg : gP c p) (hs : p.text.size ≤ 1073741824) :
    Calls Tryz.prog 105 #[.int .u8 (c.toNat : Int), .agg #[.string p.name, .bool p.raw, .string p.text, .int .i64 p.set]] w fun e w' => e = .returned (.int .i64 0) ∧ Below w.heap.size w w' := by
  obtain ⟨nm, raw, t, set⟩ := p
  obtain ⟨g1, g2, g3, g4, g5, g6⟩ := hg
  simp only at g1 g2 g3 g4 g5 g6 hs ⊢
  have hbe := bal (Below.refl w.heap.size w) (.cells #[.string nm, .bool raw, .string t, .int .i64 set] 60)
  have hTb := hT.bel hbe
  obtain ⟨c1, _⟩ := Live.fresh w #[.string nm, .bool raw, .string t, .int .i64 set] 60 1 _ rfl
  obtain ⟨c2, _⟩ := Live.fresh w #[.string nm, .bool raw, .string t, .int .i64 set] 60 2 _ rfl
  have k1 : nz (bl t) = true → ∀ w, Calls Tryz.prog 149 #[.string t, .int .u8 0] w fun e w' => e = .returned (.int .i64 (-1)) ∧ w = w' := by
    intro hn w
    have := indexByte_any t 0 w
    rw [show Lib.indexByte t.data.toList (0 : Int).toNat.toUInt8 = -1 from nz_index (bl t) hn] at this
    exact this
  have k2 : (scanL (bl t)).2 = none → ∀ w, TW w → Calls Tryz.prog 122 #[.string t] w fun e w' => e = .returned (.bool true) ∧ Below w.heap.size w w' := by
    intro hv w hT
    have := valid_any t w hT (by omega)
    rw [hv] at this
    exact this
  have HBE := Lib.hid hbe
  have HTB := Lib.hid hTb
  clear hbe hTb
  simp only [letF, List.mem_cons, List.not_mem_nil, or_false] at hc
  rcases hc with rfl | rfl | rfl | rfl | rfl | rfl | rfl
  · have hz := g3 (.inl rfl)
    replace g2 : raw = true := g2
    subst g2
    have hn : (((108 : UInt8).toNat : Nat) : Int) = 108 := rfl
    rw [hn]
    clear hn g1 g3 g4 g5 g6 k1 k2 hs hT
    go_enter Tryz.func105, Tryz.ntmps105
    go_wp2_with fail
    go_ret
    exact ⟨rfl, HBE.out⟩
  · have hz := g3 (.inr rfl)
    replace g2 : raw = true := g2
    subst g2
    have hn : (((102 : UInt8).toNat : Nat) : Int) = 102 := rfl
    rw [hn]
    clear hn g1 g3 g4 g5 g6 k1 k2 hs hT
    go_enter Tryz.func105, Tryz.ntmps105
    go_wp2_with fail
    go_ret
    exact ⟨rfl, HBE.out⟩
  · have k1 := k1 (g5 (.inl rfl))
    replace g2 : raw = true := g2
    subst g2
    have hn : (((122 : UInt8).toNat : Nat) : Int) = 122 := rfl
    rw [hn]
    have K1 := Lib.hid k1
    clear k1
    clear hn g1 g3 g4 g5 g6 k2 hs hT
    go_enter Tryz.func105, Tryz.ntmps105
    go_wp2_with (go_at_call 149; go_loud (with_reducible refine (K1.out _).mono ?_); go_loud (rintro e1 w1 ⟨rfl, rfl⟩))
    go_ret
    exact ⟨rfl, HBE.out⟩
  · have hz := g4 rfl
    replace g2 : raw = true := g2
    subst g2
    have hn : (((107 : UInt8).toNat : Nat) : Int) = 107 := rfl
    rw [hn]
    clear hn g1 g3 g4 g5 g6 k1 k2 hs hT
    go_enter Tryz.func105, Tryz.ntmps105
    go_wp2_with fail
    go_ret
    exact ⟨rfl, HBE.out⟩
  · have k1 := k1 (g5 (.inr rfl))
    have k2 := k2 (g6 rfl)
    replace g2 : raw = false := g2
    subst g2
    have hn : (((100 : UInt8).toNat : Nat) : Int) = 100 := rfl
    rw [hn]
    have K1 := Lib.hid k1
    have K2 := Lib.hid k2
    clear k1 k2
    clear hn g1 g3 g4 g5 g6 hs hT
    go_enter Tryz.func105, Tryz.ntmps105
    go_wp2_with (first
      | (go_at_call 149; go_loud (with_reducible refine (K1.out _).mono ?_); go_loud (rintro e1 w1 ⟨rfl, rfl⟩))
      | (go_at_call 122; go_loud (with_reducible refine (K2.out _ HTB.out).mono ?_); go_loud (rintro e1 w1 ⟨rfl, hb1⟩)))
    go_ret
    exact ⟨rfl, bt HBE.out hb1⟩
  · have k2 := k2 (g6 rfl)
    replace g2 : raw = false := g2
    subst g2
    have hn : (((116 : UInt8).toNat : Nat) : Int) = 116 := rfl
    rw [hn]
    have K2 := Lib.hid k2
    clear k2
    clear hn g1 g3 g4 g5 g6 k1 hs hT
    go_enter Tryz.func105, Tryz.ntmps105
    go_wp2_with (go_at_call 122; go_loud (with_reducible refine (K2.out _ HTB.out).mono ?_); go_loud (rintro e1 w1 ⟨rfl, hb1⟩))
    go_ret
    exact ⟨rfl, bt HBE.out hb1⟩
  · replace g2 : raw = true := g2
    subst g2
    have hn : (((114 : UInt8).toNat : Nat) : Int) = 114 := rfl
    rw [hn]
    clear hn g1 g3 g4 g5 g6 k1 k2 hs hT
    go_enter Tryz.func105, Tryz.ntmps105
    go_wp2_with fail
    go_ret
    exact ⟨rfl, HBE.out⟩
theorem layR_let (y : List UInt8) (h : isLay y) : ∀ c ∈ layR y, c ∈ letF := by
  rcases h with rfl | rfl | rfl | rfl | rfl | rfl | rfl <;> decide
theorem layR_len (y : List UInt8) (h : isLay y) : 0 < (layR y).length ∧ (layR y).length ≤ 4 := by
  rcases h with rfl | rfl | rfl | rfl | rfl | rfl | rfl <;> decide
set_option maxRecDepth 100000 in
set_option maxHeartbeats 4000000 in
theorem fcheck_any (v : Int) (id : ByteArray) (l : List PF) (rv : Value) (w : World) (hT : TW w) (hrow : Row w rv l.length (fcells l)) (hg : goodL (layR (layM v (bl id))) l) (hs : ∀ p ∈ l, p.text.size ≤ 1073741824) (hi : id.size ≤ 1073741824) :
    Calls Tryz.prog 56 #[.int .i64 v, .string id, rv] w fun e w' => e = .returned (.agg #[.int .i64 0, .int .i64 0]) ∧ Below w.heap.size w w' := by
  have k1 := fun w => layout_any v id w hi
  have hy := layM_is v (bl id)
  generalize layM v (bl id) = y at *
  have hlen := goodL_len _ _ hg
  have hlets := layR_let y hy
  have hll := (layR_len y hy).2
  obtain ⟨W, hW⟩ : ∃ W, W = w.alloc (.cells #[.int .i64 0, .int .i64 0] 34) := ⟨_, rfl⟩
  have hbW : Below w.heap.size w W := by rw [hW]; exact bal (Below.refl _ _) _
  have F : W.heap[w.heap.size]? = some (.cells #[.int .i64 0, .int .i64 0] 34 (0, 0)) := by rw [hW]; exact heap_alloc_new _ _
  have hrW := hrow.keep hbW
  obtain ⟨av, cap, rfl, hcells⟩ := hrW
  have hTW := hT.bel hbW
  obtain ⟨n, hn⟩ : ∃ n, n = l.length := ⟨_, rfl⟩
  rw [← hn] at hrow hlen ⊢
  have K1 := Lib.hid k1
  have HBW := Lib.hid hbW
  have F0 := Lib.hid F
  have HC := Lib.hid hcells
  have HTW := Lib.hid hTW
  have HLT := Lib.hid hlets
  have HG := Lib.hid hg
  have HS := Lib.hid hs
  have HN := Lib.hid hn
  have HLEN := Lib.hid hlen
  clear k1 hbW F hcells hTW hlets hg hs hn hlen
  clear hrow hT
  by_cases h : y = []
  · subst h
    have HN1 : Hid (n = 1) := HLEN.out
    go_enter Tryz.func56, Tryz.ntmps56
    go_wp2_with fail
    rw [← hW]
    clear hW
    go_wp2_with (first
      | (go_at_call 52; go_loud (with_reducible refine (K1.out _).mono ?_); go_loud (rintro e1 w1 ⟨rfl, hb1⟩))
      | fail)
    have hbk1 := hb1
    have HB1 := Lib.hid hbk1
    clear hbk1
    go_loopw [17] (fun iv wr => ∃ k : Nat, iv = .int .i64 (k : Int) ∧ k ≤ n ∧ Below W.heap.size W wr) (fun iv _ => n - (intOf iv).toNat)
    case atStart => exact ⟨0, rfl, Nat.zero_le _, hb1⟩
    case round =>
      obtain ⟨k, rfl, hk, hbel⟩ := hrel
      by_cases hlt : k < n
      · obtain ⟨p, hp⟩ := at_some l k (by rw [← HN.out]; omega)
        obtain ⟨c, hc⟩ := at_some (layR []) k (by rw [← HLEN.out]; omega)
        obtain ⟨g, o, rfl, d0, d1, d2, d3⟩ := pt_at HC.out k p hp
        replace d0 := kc hbel d0
        replace d1 := kc hbel d1
        replace d2 := kc hbel d2
        replace d3 := kc hbel d3
        have kw := fun w hT => fwrong_any c p w hT (HLT.out c (List.mem_of_getElem? hc)) (goodL_at _ _ k c p HG.out hc hp) (HS.out p (List.mem_of_getElem? hp))
        have X : ∀ h, (⟨#[114]⟩ : ByteArray)[k]'h = c := atB_of (⟨#[114]⟩ : ByteArray) k c (hc)
        have hTr := HTW.out.bel hbel
        have m0 : (0 : Int) ≤ (k : Int) := by omega
        have m1 : (k : Int) < (n : Int) := by omega
        have m2 : (k : Int) < 1 := by have := HN1.out; omega
        have m3 : ¬ (k : Int) ≥ (n : Int) := by omega
        have m4 : decide ((k : Int) ≥ (n : Int)) = false := by simp; omega
        have KW := Lib.hid kw
        have HTR := Lib.hid hTr
        have HBL := Lib.hid hbel
        clear kw hTr hbel
        clear hp hc
        go_wp2_with fail
        go_region_held3 (fun w' => w'.cell? ⟨g, o + k * 4, none⟩ = some (.string p.name) ∧ w'.cell? ⟨g, o + k * 4 + 1, none⟩ = some (.bool p.raw) ∧ w'.cell? ⟨g, o + k * 4 + 2, none⟩ = some (.string p.text) ∧ w'.cell? ⟨g, o + k * 4 + 3, none⟩ = some (.int .i64 p.set))
          (first | exact ⟨kc hb2 d0, kc hb2 d1, kc hb2 d2, kc hb2 d3⟩ | go_keep)
          (first
            | (go_at_call 105; go_loud (refine (KW.out _ ?_).mono ?_); go_loud (first | exact HTR.out | exact HTR.out.drew | exact HTR.out.drewN _); go_loud (rintro e2 w2 ⟨rfl, hb2⟩)))
        go_wp2_with fail
        go_roundw
        case rel => exact ⟨k + 1, by go_num, by omega, bt HBL.out (by first | exact hb2 | exact bt (Below.refl _ _).drew hb2)⟩
        case measure => first | (simp [intOf]; omega) | simp [intOf]
      · have m2 : ¬ (k : Int) < 1 := by have := HN1.out; omega
        obtain ⟨q0, q0'⟩ := live_of (blkB F0.out hbel) 0 _ rfl
        obtain ⟨q1, q1'⟩ := live_of (blkB F0.out hbel) 1 _ rfl
        have m3 : ¬ (n : Int) > 1 := by have := HN1.out; omega
        go_wp2_with fail
        refine bodyPost_ret (v := .agg #[.int .i64 0, .int .i64 0]) (by simp [results, Tryz.results56, go_sem, q0, q1, q0', q1']) rfl ?_
        exact ⟨rfl, ((HBW.out.trans (hbel.mono HBW.out.size)).setCell (Nat.le_refl _) _).setCell (Nat.le_refl _) _⟩
  · obtain ⟨Y, hYd⟩ : ∃ Y : ByteArray, Y = ⟨y.toArray⟩ := ⟨_, rfl⟩
    have hYb : bl Y = y := by rw [hYd]
    have hYs : Y.size = n := by rw [← bl_length, hYb, HLEN.out]; unfold layR; rw [if_neg h]
    have hR : layR y = y := if_neg h
    have hne : (Y.toList == []) = false := by rw [eq_bl, hYb, decide_eq_false_iff_not]; exact h
    have hnn : Y.toList.isEmpty = false := by
      rw [ByteArray.toList_eq]
      cases hh : Y.data.toList with
      | nil => exact absurd (hYb.symm.trans hh) h
      | cons _ _ => rfl
    rw [← hYd] at K1
    go_enter Tryz.func56, Tryz.ntmps56
    go_wp2_with fail
    rw [← hW]
    have HYS : Hid (Y.size = n) := hYs
    have hn4 : n ≤ 4 := by have := HLEN.out; omega
    clear hW hYd h hYs
    go_wp2_with (first
      | (go_at_call 52; go_loud (with_reducible refine (K1.out _).mono ?_); go_loud (rintro e1 w1 ⟨rfl, hb1⟩))
      | fail)
    have hbk1 := hb1
    have HB1 := Lib.hid hbk1
    clear hbk1
    go_loopw [17] (fun iv wr => ∃ k : Nat, iv = .int .i64 (k : Int) ∧ k ≤ n ∧ Below W.heap.size W wr) (fun iv _ => n - (intOf iv).toNat)
    case atStart => exact ⟨0, rfl, Nat.zero_le _, hb1⟩
    case round =>
      obtain ⟨k, rfl, hk, hbel⟩ := hrel
      by_cases hlt : k < n
      · obtain ⟨p, hp⟩ := at_some l k (by rw [← HN.out]; omega)
        obtain ⟨c, hc⟩ := at_some (layR y) k (by rw [← HLEN.out]; omega)
        obtain ⟨g, o, rfl, d0, d1, d2, d3⟩ := pt_at HC.out k p hp
        replace d0 := kc hbel d0
        replace d1 := kc hbel d1
        replace d2 := kc hbel d2
        replace d3 := kc hbel d3
        have kw := fun w hT => fwrong_any c p w hT (HLT.out c (List.mem_of_getElem? hc)) (goodL_at _ _ k c p HG.out hc hp) (HS.out p (List.mem_of_getElem? hp))
        have X : ∀ h, Y[k]'h = c := atB_of Y k c (by rw [hYb, ← hR]; exact hc)
        have hTr := HTW.out.bel hbel
        have m0 : (0 : Int) ≤ (k : Int) := by omega
        have m1 : (k : Int) < (n : Int) := by omega
        have m2 : (k : Int) < (Y.size : Int) := by have := HYS.out; omega
        have m3 : ¬ (k : Int) ≥ (n : Int) := by omega
        have m4 : decide ((k : Int) ≥ (n : Int)) = false := by simp; omega
        have KW := Lib.hid kw
        have HTR := Lib.hid hTr
        have HBL := Lib.hid hbel
        clear kw hTr hbel
        clear hp hc
        go_wp2_with fail
        go_region_held3 (fun w' => w'.cell? ⟨g, o + k * 4, none⟩ = some (.string p.name) ∧ w'.cell? ⟨g, o + k * 4 + 1, none⟩ = some (.bool p.raw) ∧ w'.cell? ⟨g, o + k * 4 + 2, none⟩ = some (.string p.text) ∧ w'.cell? ⟨g, o + k * 4 + 3, none⟩ = some (.int .i64 p.set))
          (first | exact ⟨kc hb2 d0, kc hb2 d1, kc hb2 d2, kc hb2 d3⟩ | go_keep)
          (first
            | (go_at_call 105; go_loud (refine (KW.out _ ?_).mono ?_); go_loud (first | exact HTR.out | exact HTR.out.drew | exact HTR.out.drewN _); go_loud (rintro e2 w2 ⟨rfl, hb2⟩)))
        go_wp2_with fail
        go_roundw
        case rel => exact ⟨k + 1, by go_num, by omega, bt HBL.out (by first | exact hb2 | exact bt (Below.refl _ _).drew hb2)⟩
        case measure => first | (simp [intOf]; omega) | simp [intOf]
      · have m2 : ¬ (k : Int) < (Y.size : Int) := by have := HYS.out; omega
        obtain ⟨q0, q0'⟩ := live_of (blkB F0.out hbel) 0 _ rfl
        obtain ⟨q1, q1'⟩ := live_of (blkB F0.out hbel) 1 _ rfl
        have m3 : ¬ (n : Int) > (Y.size : Int) := by have := HYS.out; omega
        go_wp2_with fail
        refine bodyPost_ret (v := .agg #[.int .i64 0, .int .i64 0]) (by simp [results, Tryz.results56, go_sem, q0, q1, q0', q1']) rfl ?_
        exact ⟨rfl, ((HBW.out.trans (hbel.mono HBW.out.size)).setCell (Nat.le_refl _) _).setCell (Nat.le_refl _) _⟩
end Go.Proofs.YtmfjmgjhfplijaaGreatDoor

namespace Go.Proofs.YtmfjmgjhfplijaaGreatDoor
open Go.RowKit
set_option linter.unusedVariables false
set_option linter.unusedSimpArgs false

set_option maxRecDepth 100000 in
set_option maxHeartbeats 2000000 in
/-- all as it is. -/
theorem fprint_none (v : Int) (id : ByteArray) (l : List PF) (rv : Value) (w : World) (hT : TW w) (hrow : Row w rv l.length (fcells l)) (hg : goodL (layR (layM v (bl id))) l) (hs : ∀ p ∈ l, p.text.size ≤ 1073741824) (hi : id.size ≤ 1073741824) (hy : layM v (bl id) = []) :
    Calls Tryz.prog 17 #[.int .i64 v, .string id, rv] w fun e w' => e = .returned (.tuple #[.string ⟨(fprF (decide (v = 4)) (layM v (bl id)) l).toArray⟩, .agg #[.int .i64 0, .int .i64 0]]) ∧ Below w.heap.size w w' := by
  obtain ⟨W, hW⟩ : ∃ W, W = w.alloc (.cells #[.int .i64 0, .int .i64 0] 34) := ⟨_, rfl⟩
  have hbW : Below w.heap.size w W := by rw [hW]; exact bal (Below.refl _ _) _
  have F : W.heap[w.heap.size]? = some (.cells #[.int .i64 0, .int .i64 0] 34 (0, 0)) := by rw [hW]; exact heap_alloc_new _ _
  have k1 : Calls Tryz.prog 56 #[.int .i64 v, .string id, rv] W fun e w' => e = .returned (.agg #[.int .i64 0, .int .i64 0]) ∧ Below W.heap.size W w' := fcheck_any v id l rv W (hT.bel hbW) (hrow.keep hbW) hg hs hi
  have k2 := fun w => bad_any 0 0 w
  have k3 := fun w => layout_any v id w hi
  rw [hy] at k3 hg ⊢
  obtain ⟨p, hl, hgp⟩ : ∃ p, l = [p] ∧ gP 114 p := by
    unfold layR at hg
    rw [if_pos rfl] at hg
    match l, hg with
    | [p], hg => exact ⟨p, rfl, hg.1⟩
  subst hl
  have e : fprF (decide (v = 4)) [] [p] = bl p.text := by unfold fprF; rw [if_pos rfl]
  rw [e, mk_bl]
  obtain ⟨av, cap, rfl, hc⟩ := hrow.keep hbW
  obtain ⟨g, o, rfl, d0, d1, d2, d3⟩ := pt_at hc 0 p rfl
  have d2 : W.cell? ⟨g, o + 2, none⟩ = some (.string p.text) := by simpa using d2
  obtain ⟨nm, raw, t, st⟩ := p
  simp only at d2 ⊢
  have K1 := Lib.hid k1
  have K2 := Lib.hid k2
  have K3 := Lib.hid k3
  have F0 := Lib.hid F
  have HBW := Lib.hid hbW
  clear k1 k2 k3 F hbW
  clear hg hgp e hc hs hrow hT d0 d1 d3
  go_enter Tryz.func17, Tryz.ntmps17
  go_wp2_with fail
  rw [← hW]
  clear hW
  go_wp2_with (first
    | (go_at_call 56; go_loud (refine K1.out.mono ?_); go_loud (rintro e1 w1 ⟨rfl, hb1⟩); go_loud (have hb1a := bal hb1 (.cells #[.int .i64 0, .int .i64 0] 34)))
    | (go_at_call 16; go_loud (refine (K2.out _).mono ?_); go_loud (rintro e2 w2 ⟨rfl, hb2⟩); go_loud (have hb12 := bt hb1a hb2))
    | (go_at_call 52; go_loud (with_reducible refine (K3.out _).mono ?_); go_loud (rintro e3 w3 ⟨rfl, hb3⟩); go_loud (have hb13 := bt hb12 hb3); go_loud (have d2 := kc hb13 d2); go_loud (obtain ⟨q0, q0'⟩ := live_of (blkB F0.out hb13) 0 _ rfl); go_loud (obtain ⟨q1, q1'⟩ := live_of (blkB F0.out hb13) 1 _ rfl)))
  refine bodyPost_ret (v := .tuple #[.string t, .agg #[.int .i64 0, .int .i64 0]]) (by simp [results, Tryz.results17, go_sem, q0, q1, q0', q1']) rfl ?_
  exact ⟨rfl, ((HBW.out.trans (hb13.mono HBW.out.size)).setCell (Nat.le_refl _) _).setCell (Nat.le_refl _) _⟩

/-- a piece's texts. -/
def textB (e4 : Bool) (c : UInt8) (p : PF) : ByteArray := if (isT c && !e4) = true then ⟨(unitsT (bl p.text)).toArray⟩ else p.text
def pieceB (e4 : Bool) (c : UInt8) (p : PF) : List ByteArray := textB e4 c p :: (if c = 122 then [⟨#[0]⟩] else if c = 100 then [⟨(endB (encF e4)).toArray⟩] else [])
theorem endB_enc (e4 : Bool) : endB (encF e4) = endB (if e4 = true then 3 else 1) := rfl
theorem pieceB_flat (e4 : Bool) (c : UInt8) (p : PF) : ((pieceB e4 c p).map bl).flatten = pieceL e4 c p := by
  unfold pieceB pieceL textB
  have h0 : bl ⟨#[0]⟩ = [0] := rfl
  have h1 : bl ⟨(endB (if e4 = true then 3 else 1)).toArray⟩ = endB (if e4 = true then 3 else 1) := by simp [bl]
  have h2 : bl ⟨(unitsT (bl p.text)).toArray⟩ = unitsT (bl p.text) := by simp [bl]
  rw [List.map_cons, List.flatten_cons, endB_enc]
  congr 1
  · split
    · exact h2
    · rfl
  · split
    · simp [h0]
    · split
      · simp [h1]
      · rfl
theorem pieceL_len (e4 : Bool) (c : UInt8) (p : PF) : (pieceL e4 c p).length ≤ 4 + 4 * p.text.size := by
  have h := unitsT_len (bl p.text)
  have hl := bl_length p.text
  unfold pieceL
  rw [List.length_append]
  have h1 : (if (isT c && !e4) = true then unitsT (bl p.text) else bl p.text).length ≤ 2 + 4 * p.text.size := by split <;> omega
  have h2 : (if c = 122 then [(0 : UInt8)] else if c = 100 then endB (if e4 = true then 3 else 1) else []).length ≤ 2 := by
    split
    · decide
    · split
      · unfold endB; split <;> decide
      · decide
  omega
theorem bodyF_len (e4 : Bool) (N : Nat) : ∀ (y : List UInt8) (l : List PF), (∀ p ∈ l, p.text.size ≤ N) → (bodyF e4 y l).length ≤ y.length * (4 + 4 * N)
  | [], [], _ => by simp [bodyF]
  | [], _ :: _, _ => by simp [bodyF]
  | _ :: _, [], _ => by simp [bodyF]
  | c :: r, p :: q, h => by
    have h1 := pieceL_len e4 c p
    have h2 := h p (by simp)
    have ih := bodyF_len e4 N r q fun x hx => h x (by simp [hx])
    rw [bodyF, List.length_append, List.length_cons, Nat.add_mul]
    omega
theorem fprF_len (e4 : Bool) (N : Nat) (y : List UInt8) (l : List PF) (hy : isLay y) (h : ∀ p ∈ l, p.text.size ≤ N) : (fprF e4 y l).length ≤ 17 + 16 * N := by
  have hl := (layR_len y hy).2
  unfold fprF
  split
  · match l with
    | [] => simp
    | p :: _ =>
      have := h p (by simp)
      simp only [bl_length]
      omega
  · next hne =>
    unfold layR at hl
    rw [if_neg hne] at hl
    have := bodyF_len e4 N y l h
    rw [List.length_cons]
    have h4 : y.length * (4 + 4 * N) ≤ 4 * (4 + 4 * N) := Nat.mul_le_mul_right _ hl
    omega
end Go.Proofs.YtmfjmgjhfplijaaGreatDoor

namespace Go.Proofs.YtmfjmgjhfplijaaGreatDoor
open Go.RowKit
set_option linter.unusedVariables false
set_option linter.unusedSimpArgs false

theorem vis4 (v : Int) : (v == 4) = decide (v = 4) := by
  by_cases h : v = 4 <;> simp [h]
set_option maxRecDepth 100000 in
set_option maxHeartbeats 2000000 in
theorem fprint_some (v : Int) (id : ByteArray) (l : List PF) (rv : Value) (w : World) (hT : TW w) (hrow : Row w rv l.length (fcells l)) (hg : goodL (layR (layM v (bl id))) l) (hs : ∀ p ∈ l, p.text.size ≤ 1073741824) (hi : id.size ≤ 1073741824) (hy : layM v (bl id) ≠ []) :
    Calls Tryz.prog 17 #[.int .i64 v, .string id, rv] w fun e w' => e = .returned (.tuple #[.string ⟨(fprF (decide (v = 4)) (layM v (bl id)) l).toArray⟩, .agg #[.int .i64 0, .int .i64 0]]) ∧ Below w.heap.size w w' := by
  obtain ⟨W, hW⟩ : ∃ W, W = w.alloc (.cells #[.int .i64 0, .int .i64 0] 34) := ⟨_, rfl⟩
  have hbW : Below w.heap.size w W := by rw [hW]; exact bal (Below.refl _ _) _
  have F : W.heap[w.heap.size]? = some (.cells #[.int .i64 0, .int .i64 0] 34 (0, 0)) := by rw [hW]; exact heap_alloc_new _ _
  have hWs : W.heap.size = w.heap.size + 1 := by rw [hW, World.size_alloc]
  have k1 : Calls Tryz.prog 56 #[.int .i64 v, .string id, rv] W fun e w' => e = .returned (.agg #[.int .i64 0, .int .i64 0]) ∧ Below W.heap.size W w' := fcheck_any v id l rv W (hT.bel hbW) (hrow.keep hbW) hg hs hi
  have k2 := fun w => bad_any 0 0 w
  have k3 := fun w => layout_any v id w hi
  have hyl := layM_is v (bl id)
  generalize layM v (bl id) = y at *
  have hlets := layR_let y hyl
  have hll := (layR_len y hyl).2
  have hR : layR y = y := if_neg hy
  rw [hR] at hlets hll hg
  have hlen := goodL_len _ _ hg
  obtain ⟨e4, he4⟩ : ∃ e4, e4 = decide (v = 4) := ⟨_, rfl⟩
  have hv4 := vis4 v
  rw [← he4] at hv4 ⊢
  have hpl := fprF_len e4 1073741824 y l hyl hs
  obtain ⟨PL, hPL⟩ : ∃ PL, PL = fprF e4 y l := ⟨_, rfl⟩
  rw [← hPL] at hpl ⊢
  have hPL2 : PL = UInt8.ofNat (encF e4) :: bodyF e4 y l := by rw [hPL]; unfold fprF; rw [if_neg hy]
  obtain ⟨Y, hYd⟩ : ∃ Y : ByteArray, Y = ⟨y.toArray⟩ := ⟨_, rfl⟩
  have hYb : bl Y = y := by rw [hYd]
  have hYs : Y.size = y.length := by rw [← bl_length, hYb]
  have hne : (Y.toList == []) = false := by rw [eq_bl, hYb, decide_eq_false_iff_not]; exact hy
  have hnn : Y.toList.isEmpty = false := by
    rw [ByteArray.toList_eq]
    cases hh : Y.data.toList with
    | nil => exact absurd (hYb.symm.trans hh) hy
    | cons _ _ => rfl
  rw [← hYd] at k3
  obtain ⟨av, cap, rfl, hc⟩ := hrow.keep hbW
  obtain ⟨n, hn⟩ : ∃ n, n = l.length := ⟨_, rfl⟩
  rw [← hn] at k1 ⊢
  obtain ⟨E, hE⟩ : ∃ E : Int, E = (encF e4 : Int) := ⟨_, rfl⟩
  have hE1 : (E == 1) = !e4 := by rw [hE]; cases e4 <;> rfl
  have kb : ∀ (w : World), Calls Tryz.prog 57 #[.int .u64 E, .int .i64 1] w fun e w' => e = .returned (.string ⟨#[UInt8.ofNat (encF e4)]⟩) ∧ Below w.heap.size w w' := by
    intro w
    have := big_any (encF e4 : Int) 1 w (by omega) (by cases e4 <;> decide)
    rw [big_1, ← hE] at this
    exact this
  have ke : ∀ (w : World), Calls Tryz.prog 59 #[.agg #[.pointer none, .int .u8 E, .int .i64 0, .int .i64 0, .bool false, .int .i64 0]] w fun e w' => e = .returned (.string ⟨(endB (encF e4)).toArray⟩) ∧ Below w.heap.size w w' := by
    intro w
    have := fend_any (.pointer none) (encF e4) 0 0 0 false w (by cases e4 <;> decide)
    rw [← hE] at this
    exact this
  have hwE : IntKind.u64.wrap E = E := by rw [hE]; cases e4 <;> rfl
  have hEv : E = if e4 = true then 3 else 1 := by rw [hE]; cases e4 <;> rfl
  have K1 := Lib.hid k1
  have K2 := Lib.hid k2
  have K3 := Lib.hid k3
  have KB := Lib.hid kb
  have KE := Lib.hid ke
  have F0 := Lib.hid F
  have HBW := Lib.hid hbW
  have HWS := Lib.hid hWs
  have HC := Lib.hid hc
  have HN := Lib.hid hn
  have HLT := Lib.hid hlets
  have HLL := Lib.hid hll
  have HLEN := Lib.hid hlen
  have HG := Lib.hid hg
  have HS := Lib.hid hs
  have HPL := Lib.hid hPL2
  have HPLN := Lib.hid hpl
  have HYB := Lib.hid hYb
  have HYS := Lib.hid hYs
  have HT := Lib.hid hT
  have HEV := Lib.hid hEv
  clear k1 k2 k3 kb ke F hbW hWs hc hn hlets hll hlen hg hs hPL2 hpl hYb hYs hT hEv
  clear hrow hyl hR he4 hPL hYd hE
  go_enter Tryz.func17, Tryz.ntmps17
  go_wp2_with fail
  rw [← hW]
  clear hW
  go_upto_region 8 with (first
    | (go_at_call 56; go_loud (refine K1.out.mono ?_); go_loud (rintro e1 w1 ⟨rfl, hb1⟩); go_loud (have hb1a := bal hb1 (.cells #[.int .i64 0, .int .i64 0] 34)))
    | (go_at_call 16; go_loud (refine (K2.out _).mono ?_); go_loud (rintro e2 w2 ⟨rfl, hb2⟩); go_loud (have hb12 := bt hb1a hb2))
    | (go_at_call 52; go_loud (with_reducible refine (K3.out _).mono ?_); go_loud (rintro e3 w3 ⟨rfl, hb3⟩); go_loud (have hb13 := bt hb12 hb3)))
  have hbA := bal hb13 (.cells #[.pointer none, .int .u8 1, .int .i64 0, .int .i64 0, .bool false, .int .i64 0] 126)
  have S1 := heap_alloc_new w3 (.cells #[.pointer none, .int .u8 1, .int .i64 0, .int .i64 0, .bool false, .int .i64 0] 126)
  have hz3 := hb13.size
  go_upto_if 36 with fail
  go_cut [] (fun wx => wx.heap[w3.heap.size]? = some (.cells #[.pointer none, .int .u8 E, .int .i64 0, .int .i64 0, .bool false, .int .i64 0] 126 (0, 0)) ∧ Below W.heap.size W wx ∧ wx.heap.size = w3.heap.size + 1)
  case first =>
    cases e4 with
    | true =>
      obtain ⟨s1, s1'⟩ := live_of S1 1 _ rfl
      go_wp2_with fail
      go_meet
      have hE : E = 3 := by simpa using HEV.out
      exact ⟨by rw [hE]; exact heap_alloc_new _ _, bal hb13 _, World.size_alloc _ _⟩
    | false =>
      go_wp2_with fail
      go_meet
      have hE : E = 1 := by simpa using HEV.out
      exact ⟨by rw [hE]; exact S1, hbA, World.size_alloc _ _⟩
  case rest =>
    obtain ⟨S4, hb4, hz4⟩ := hcut
    have s1 := (live_of S4 1 _ rfl).1
    go_wp2_with (go_at_call 57; go_loud (with_reducible refine (KB.out _).mono ?_); go_loud (rintro e5 w5 ⟨rfl, hb5⟩); go_loud (have hown0 : (w5.alloc (.cells #[.string ⟨#[UInt8.ofNat (encF e4)]⟩] 9)).ownsRow w5.heap.size 9 1 (.slice (some ⟨w5.heap.size, 0, none⟩) 1 1) 1 (scells [⟨#[UInt8.ofNat (encF e4)]⟩]) := World.ownsRow_lit (size := 1) (base := w5.heap.size) w5 #[.string ⟨#[UInt8.ofNat (encF e4)]⟩] 1 (Nat.le_refl _) (by unfold maxLen; omega) rfl))
    have hb15 := bt hb4 hb5
    have S5 := blkB S4 hb5
    have hz5 := hb5.size
    have hz15 := hb15.size
    rw [hz4] at hz5
    have HS5 := Lib.hid S5
    have hHown := Lib.hid hown0
    have hn4 : n ≤ 4 := by have := HLL.out; have := HLEN.out; have := HN.out; omega
    clear S4 hb4 S1 hbA hb12 hb1a hb1 hb2 hb3 hb13 s1 S5 hown0 K1 K3 KB
    go_loopw [11, 45] (fun pv iv wr => ∃ (k : Nat) (ps : List ByteArray), iv = .int .i64 (k : Int) ∧ k ≤ n ∧ Hid (ps.length ≤ 1 + 2 * k) ∧ Hid (wr.ownsRow w5.heap.size 9 1 pv ps.length (scells ps)) ∧ Hid ((ps.map bl).flatten ++ bodyF e4 (y.drop k) (l.drop k) = PL) ∧ Hid (ps ≠ []) ∧ Below w5.heap.size w5 wr) (fun _ iv _ => n - (intOf iv).toNat)
    case atStart => exact ⟨0, [⟨#[UInt8.ofNat (encF e4)]⟩], rfl, Nat.zero_le _, Lib.hid (by simp), hHown, Lib.hid (by rw [HPL.out]; rfl), Lib.hid (by simp), bal (Below.refl _ _) _⟩
    case round =>
      obtain ⟨k, ps, rfl, hk, HPS, HO, HP, HNE, hbel⟩ := hrel
      have hlr := hbel.size
      by_cases hlt : k < n
      · obtain ⟨p, hp⟩ := at_some l k (by have := HN.out; omega)
        obtain ⟨c, hc⟩ := at_some y k (by have := HN.out; have := HLEN.out; omega)
        have X : ∀ h, Y[k]'h = c := atB_of Y k c (by rw [HYB.out]; exact hc)
        obtain ⟨g, o, rfl, d0, d1, d2, d3⟩ := pt_at HC.out k p hp
        have hb1r := bt hb15 hbel
        replace d0 := kc hb1r d0
        replace d1 := kc hb1r d1
        replace d2 := kc hb1r d2
        replace d3 := kc hb1r d3
        have hgp := goodL_at _ _ k c p HG.out hc hp
        have hsz := HS.out p (List.mem_of_getElem? hp)
        have hP := HP.out
        obtain ⟨c1, c2⟩ := List.getElem?_eq_some_iff.1 hc
        obtain ⟨p1, p2⟩ := List.getElem?_eq_some_iff.1 hp
        rw [List.drop_eq_getElem_cons c1, c2, List.drop_eq_getElem_cons p1, p2, bodyF, ← pieceB_flat, ← List.append_assoc, ← List.flatten_append, ← List.map_append] at hP
        have hTr : TW wr := HT.out.bel (HBW.out.trans (hb1r.mono HBW.out.size))
        have kw : isT c = true → ∀ w, TW w → Calls Tryz.prog 58 #[.string p.text] w fun e w' => e = .returned (.tuple #[.string ⟨(unitsT (bl p.text)).toArray⟩, .agg #[.int .i64 0, .int .i64 0]]) ∧ Below w.heap.size w w' := fun hT w h => withmark_any p.text w h (hgp.2.2.2.2.2 hT) hsz
        have hraw := hgp.2.1
        obtain ⟨U, hU⟩ : ∃ U, U = textB e4 c p := ⟨_, rfl⟩
        have hpB : pieceB e4 c p = U :: (if c = 122 then [⟨#[0]⟩] else if c = 100 then [⟨(endB (encF e4)).toArray⟩] else []) := by rw [hU]; rfl
        have hU2 : (isT c && !e4) = true → U = ⟨(unitsT (bl p.text)).toArray⟩ := fun h => by rw [hU]; unfold textB; rw [if_pos h]
        have hU3 : ¬ (isT c && !e4) = true → U = p.text := fun h => by rw [hU]; unfold textB; rw [if_neg h]
        obtain ⟨nm, raw, t, st⟩ := p
        simp only at d0 d1 d2 d3 kw hraw hU2 hU3 hsz
        have m0 : (0 : Int) ≤ (k : Int) := by omega
        have m1 : (k : Int) < (n : Int) := by omega
        have m2 : (k : Int) < (Y.size : Int) := by have := HYS.out; have := HN.out; have := HLEN.out; omega
        have f1 := (Live.fresh wr #[.string nm, .bool raw, .string t, .int .i64 st] 60 1 _ rfl).1
        have f2 := (Live.fresh wr #[.string nm, .bool raw, .string t, .int .i64 st] 60 2 _ rfl).1
        have hbA := bal (Below.refl wr.heap.size wr) (.cells #[.string nm, .bool raw, .string t, .int .i64 st] 60)
        have hTA := hTr.bel hbA
        have hz9 : ps.length < 70368744177664 := by have := HPS.out; omega
        have hz10 : (ps.length + 1) * 16 ≤ 140737488355328 := by have := HPS.out; omega
        have HPB := Lib.hid hpB
        have HP2 := Lib.hid hP
        have sE := (live_of (blkB HS5.out hbel) 1 _ rfl).1
        have sEA := kc hbA sE
        have hb : (isT c && !e4) = true → isT c = true := by cases isT c <;> simp
        have kw := fun h => kw (hb h)
        obtain ⟨bb, hbb⟩ : ∃ bb, bb = (isT c && !e4) := ⟨_, rfl⟩
        rw [← hbb] at hU2 hU3 kw
        have KW := Lib.hid kw
        have HTA := Lib.hid hTA
        have HU2 := Lib.hid hU2
        have HU3 := Lib.hid hU3
        have HRAW := Lib.hid hraw
        have HBB := Lib.hid hbb
        clear kw hTA hU2 hU3 hraw hbb
        clear hpB hP HP hc hp c1 c2 p1 p2 hgp hsz hU hTr hb
        go_upto_region 15 with fail
        go_cut [45, 59] from 45 to 91 (fun s45 s59 wx => s45 = .int .i64 (k : Int) ∧ s59 = .bool bb ∧ wx = wr.alloc (.cells #[.string nm, .bool raw, .string t, .int .i64 st] 60))
        case first =>
          rcases (show (isT c = true ∧ e4 = false) ∨ isT c = false ∨ (isT c = true ∧ e4 = true) by cases isT c <;> cases e4 <;> simp) with ⟨hi1, hi2⟩ | hi1 | ⟨hi1, hi2⟩
          · have hE2 : (E == 1) = true := by rw [hE1, hi2]; rfl
            have hr : raw = false := by rw [HRAW.out, hi1]; rfl
            have hbt : bb = true := by rw [HBB.out, hi1, hi2]; rfl
            clear hE1 hi1 hi2 HBB HRAW
            subst hr hbt
            go_wp2_with fail
            go_meet
            exact ⟨rfl, rfl, rfl⟩
          · have hr : raw = true := by rw [HRAW.out, hi1]; rfl
            have hbt : bb = false := by rw [HBB.out, hi1]; rfl
            clear hE1 hi1 HBB HRAW
            subst hr hbt
            go_wp2_with fail
            go_meet
            exact ⟨rfl, rfl, rfl⟩
          · have hE2 : (E == 1) = false := by rw [hE1, hi2]; rfl
            have hr : raw = false := by rw [HRAW.out, hi1]; rfl
            have hbt : bb = false := by rw [HBB.out, hi1, hi2]; rfl
            clear hE1 hi1 hi2 HBB HRAW
            subst hr hbt
            go_wp2_with fail
            go_meet
            exact ⟨rfl, rfl, rfl⟩
        case rest =>
        obtain ⟨rfl, rfl, hwc⟩ := hcut
        clear f1 f2 sE sEA HBB HRAW hE1 d0 d1 d2 d3
        rw [← hwc] at HTA hbA
        clear hwc
        go_upto_if 59 with fail
        go_cut [14, 45] from 45 to 91 (fun s14 s45 wx => s14 = .string U ∧ s45 = .int .i64 (k : Int) ∧ Below wr.heap.size wr wx)
        case first =>
          cases bb with
          | true =>
            have kw := KW.out rfl
            have hu := HU2.out rfl
            generalize (⟨(unitsT (bl t)).toArray⟩ : ByteArray) = UU at *
            clear KW HU2 HU3
            have KW := Lib.hid kw
            clear kw
            go_wp2_with (first
              | (go_at_call 58; go_loud (with_reducible refine (KW.out _ HTA.out).mono ?_); go_loud (rintro e6 w6 ⟨rfl, hb6⟩); go_loud (have hb6a := bal hb6 (.cells #[.int .i64 0, .int .i64 0] 34)))
              | (go_at_call 16; go_loud (refine (K2.out _).mono ?_); go_loud (rintro e7 w7 ⟨rfl, hb7⟩); go_loud (have hbx := bt hbA (bt hb6a hb7))))
            go_meet
            exact ⟨by rw [hu], rfl, hbx⟩
          | false =>
            have hu := HU3.out (by decide)
            clear KW HU2 HU3
            go_wp2_with fail
            go_meet
            exact ⟨by rw [hu], rfl, hbA⟩
        case rest =>
        obtain ⟨rfl, rfl, hbx⟩ := hcut
        have hO7 := orow_bel HO.out hbx
        have hz11 := Nat.le_trans hlr hbx.size
        have hbel7 := bt hbel hbx
        clear KW HTA HU2 HU3 hbA
        go_upto_region 21 with (at_builtin; go_loud (refine wpList_push1 rfl _ _ 131 9 rfl Tryz.underlying131 (.string ⟨#[]⟩) 1 16 infoStr rfl (by decide) wc w5.heap.size u11 ps.length (scells ps) rfl hO7 #[.string U] rfl (by simp [Value.oneCell']) rfl hz9 hz10 hz11 ?_); go_loud (intro v8 w8 hown8 hb8 hk8))
        have hbel8 := hbel7.trans hb8
        have hO8 : w8.ownsRow w5.heap.size 9 1 v8 (ps.length + 1) (scells (ps ++ [U])) := by rw [scells_append]; exact hown8
        have hS8 := blkB HS5.out hbel8
        have hlr8 := hbel8.size
        have hz12 : ps.length + 1 < 70368744177664 := by have := HPS.out; omega
        have hz13 : (ps.length + 1 + 1) * 16 ≤ 140737488355328 := by have := HPS.out; omega
        have hcl := c.toNat_lt
        clear hown8 m1
        by_cases z2 : c = 122
        · have b2 : ((c.toNat : Int) == 122) = true := by rw [z2]; rfl
          have HB := HPB.out
          rw [if_pos z2] at HB
          have HPB2 := Lib.hid HB
          clear HB z2
          go_wp2_with (at_builtin; go_loud (refine wpList_push1 rfl _ _ 131 9 rfl Tryz.underlying131 (.string ⟨#[]⟩) 1 16 infoStr rfl (by decide) w8 w5.heap.size v8 (ps.length + 1) (scells (ps ++ [U])) rfl hO8 #[.string ⟨#[0]⟩] rfl (by simp [Value.oneCell']) rfl hz12 hz13 hlr8 ?_); go_loud (intro v9 w9 hown9 hb9 hk9))
          go_roundw
          case rel => exact ⟨k + 1, ps ++ [U, ⟨#[0]⟩], by go_num, by omega, Lib.hid (by have := HPS.out; rw [List.length_append]; simp only [List.length_cons, List.length_nil]; omega), Lib.hid (by rw [show ps ++ [U, ⟨#[0]⟩] = (ps ++ [U]) ++ [⟨#[0]⟩] by simp, scells_append, List.length_append, List.length_append]; exact hown9), Lib.hid (by have := HP2.out; rw [HPB2.out] at this; exact this), Lib.hid (by simp), hbel8.trans hb9⟩
          case measure => simp [intOf]; omega
        · have b2 : ((c.toNat : Int) == 122) = false := by rw [beq_eq_false_iff_ne]; intro h; exact z2 (UInt8.toNat_inj.1 (by show c.toNat = 122; omega))
          by_cases z1 : c = 100
          · have b1 : ((c.toNat : Int) == 100) = true := by rw [z1]; rfl
            have HB := HPB.out
            rw [if_neg z2, if_pos z1] at HB
            have HPB2 := Lib.hid HB
            clear HB z2 z1
            obtain ⟨s0, s1, s2, s3, s4, s5⟩ := scF hS8
            generalize (⟨(endB (encF e4)).toArray⟩ : ByteArray) = EN at *
            go_wp2_with (first
              | (go_at_call 59; go_loud (with_reducible refine (KE.out _).mono ?_); go_loud (rintro e9 w9 ⟨rfl, hb9⟩); go_loud (have hO9 := orow_bel hO8 hb9); go_loud (have hlr9 : w5.heap.size ≤ w9.heap.size := Nat.le_trans hlr8 hb9.size))
              | (at_builtin; go_loud (refine wpList_push1 rfl _ _ 131 9 rfl Tryz.underlying131 (.string ⟨#[]⟩) 1 16 infoStr rfl (by decide) w9 w5.heap.size v8 (ps.length + 1) (scells (ps ++ [U])) rfl hO9 #[.string EN] rfl (by simp [Value.oneCell']) rfl hz12 hz13 hlr9 ?_); go_loud (intro v10 w10 hown10 hb10 hk10)))
            go_roundw
            case rel => exact ⟨k + 1, ps ++ [U, EN], by go_num, by omega, Lib.hid (by have := HPS.out; rw [List.length_append]; simp only [List.length_cons, List.length_nil]; omega), Lib.hid (by rw [show ps ++ [U, EN] = (ps ++ [U]) ++ [EN] by simp, scells_append, List.length_append, List.length_append]; exact hown10), Lib.hid (by have := HP2.out; rw [HPB2.out] at this; exact this), Lib.hid (by simp), (bt hbel8 hb9).trans hb10⟩
            case measure => simp [intOf]; omega
          · have b1 : ((c.toNat : Int) == 100) = false := by rw [beq_eq_false_iff_ne]; intro h; exact z1 (UInt8.toNat_inj.1 (by show c.toNat = 100; omega))
            have HB := HPB.out
            rw [if_neg z2, if_neg z1] at HB
            have HPB2 := Lib.hid HB
            clear HB z2 z1
            go_wp2_with fail
            go_roundw
            case rel => exact ⟨k + 1, ps ++ [U], by go_num, by omega, Lib.hid (by have := HPS.out; rw [List.length_append]; simp only [List.length_cons, List.length_nil]; omega), Lib.hid (by rw [List.length_append]; exact hO8), Lib.hid (by have := HP2.out; rw [HPB2.out] at this; exact this), Lib.hid (by simp), hbel8⟩
            case measure => simp [intOf]; omega
      · have m1 : ¬ (k : Int) < (n : Int) := by omega
        have hb1r := bt hb15 hbel
        obtain ⟨q0, q0'⟩ := live_of (blkB F0.out hb1r) 0 _ rfl
        obtain ⟨q1, q1'⟩ := live_of (blkB F0.out hb1r) 1 _ rfl
        have hP : (ps.map bl).flatten = PL := by
          have := HP.out
          rw [List.drop_of_length_le (by have := HN.out; have := HLEN.out; omega), List.drop_of_length_le (by have := HN.out; have := HLEN.out; omega)] at this
          simpa [bodyF] using this
        have kj : Calls Tryz.prog 60 #[u11] wr fun e w' => e = .returned (.string ⟨PL.toArray⟩) ∧ Below wr.heap.size wr w' := by
          have := ojoin_any w5.heap.size u11 ps wr HO.out HNE.out (by have := HPS.out; omega) (by rw [hP]; have := HPLN.out; omega)
          rw [hP] at this
          exact this
        have KJ := Lib.hid kj
        have HP2 := Lib.hid hP
        clear kj hP
        clear HP
        go_wp2_with (go_at_call 60; go_loud (refine KJ.out.mono ?_); go_loud (rintro e9 w9 ⟨rfl, hb9⟩); go_loud (have hb19 := bt hb1r hb9); go_loud (obtain ⟨q0, q0'⟩ := live_of (blkB F0.out hb19) 0 _ rfl); go_loud (obtain ⟨q1, q1'⟩ := live_of (blkB F0.out hb19) 1 _ rfl))
        refine bodyPost_ret (v := .tuple #[.string ⟨PL.toArray⟩, .agg #[.int .i64 0, .int .i64 0]]) (by simp [results, Tryz.results17, go_sem, q0, q1, q0', q1']) rfl ?_
        exact ⟨rfl, ((HBW.out.trans (hb19.mono HBW.out.size)).setCell (Nat.le_refl _) _).setCell (Nat.le_refl _) _⟩
end Go.Proofs.YtmfjmgjhfplijaaGreatDoor

