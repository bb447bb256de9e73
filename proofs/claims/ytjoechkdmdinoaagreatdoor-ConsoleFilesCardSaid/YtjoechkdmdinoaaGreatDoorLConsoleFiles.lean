/- A row of texts among a law's arguments. -/
import Derived.Test.YtjoechkdmdinoaaGreatDoorMFr
import Derived.Test.YtjoechkdmdinoaaGreatDoorMCy
import Derived.Deep.Slices
import Derived.Deep.RegionHeld3
import Derived.Test.YtjoechkdmdinoaaGreatDoorHX
import Derived.Test.YtjoechkdmdinoaaGreatDoorMOx
import Derived.Test.YtjoechkdmdinoaaGreatDoorMPp
import Derived.Test.YtjoechkdmdinoaaGreatDoorHV
import Derived.ChangeMaps5
import Derived.Test.YtjoechkdmdinoaaGreatDoorKConsoleFiles
import Derived.Test.YtjoechkdmdinoaaGreatDoorKy
import Derived.Test.YtjoechkdmdinoaaGreatDoorKt
namespace Go.Proofs.YtjoechkdmdinoaaGreatDoor
open Go.ChangeShapes Go.WideShapes Go.ChangeAt Go.RowKit
set_option linter.unusedVariables false
set_option linter.unusedSimpArgs false
set_option maxRecDepth 100000 in
theorem open_strs {H : Type} {enc : TypeId × Value → H} {w : World} {r : Reach} {b0 : Nat} {v : Value} {d : DataW H} {ps : List MemPlace}
    (hval : Value.okWide Tryz.prog w r b0 51 v) (hd : DataW.Trod enc Tryz.prog w 0 (fun _ => true) true 51 v d ps) :
    ∃ l : List ByteArray, Row w v l.length (scells l) := by
  obtain ⟨fuel, h⟩ := hd
  obtain ⟨a0, len0, cap0, rfl⟩ := okWide_slice Tryz.underlying51 hval
  rcases Go.Deep.open_slice Tryz.underlying51 h with ⟨hc, _⟩ | ⟨a, len, cap, m, n, D, Pl, hcs, hb, hl, hm, hmm, _, hi⟩
  · simp [Value.cells] at hc
    obtain ⟨rfl, rfl, rfl⟩ := hc
    exact ⟨[], Row.nil _⟩
  · simp [Value.cells] at hcs
    obtain ⟨rfl, rfl, rfl⟩ := hcs
    rw [show Tryz.prog.cellsOf 9 = 1 by kernel_rfl] at hi
    simp only [if_true] at hmm
    have hex : ∀ i, i < len0 → ∃ s : ByteArray, w.cell? (a.add i) = some (.string s) := by
      intro i hil
      obtain ⟨cs', h1, h2⟩ := hi i (by omega)
      obtain ⟨s, e0, _, hs⟩ := DataW.trod_string Tryz.underlying9 h2
      obtain ⟨_, _, h5⟩ := World.cells?_some h1
      have h6 := h5 0 (by decide)
      rw [e0] at h6
      refine ⟨s, ?_⟩
      simpa [Go.Deep.add_add] using h6
    obtain ⟨f, hf⟩ : ∃ f : Nat → ByteArray, ∀ i, i < len0 → w.cell? (a.add i) = some (.string (f i)) := by
      refine ⟨fun i => if h : i < len0 then (hex i h).choose else ⟨#[]⟩, fun i h => ?_⟩
      simp only [dif_pos h]
      exact (hex i h).choose_spec
    refine ⟨(List.range len0).map f, ?_⟩
    rw [List.length_map, List.length_range]
    refine ⟨some a, cap0, rfl, fun j x hj => ?_⟩
    have hjl : j < len0 := by
      have := (List.getElem?_eq_some_iff.1 hj).1
      rw [show (scells ((List.range len0).map f)).length = len0 by simp [scells]] at this
      exact this
    have h0 := hf 0 (by omega)
    have hx := hf j hjl
    obtain ⟨b, off, p⟩ := a
    have hp : p = none := by simpa [Addr.add] using World.cell?_spot h0
    subst hp
    refine ⟨b, off, rfl, ?_⟩
    rw [← Go.WideShapes.add_plain, hx]
    rw [scells, List.getElem?_map, List.getElem?_map, List.getElem?_range hjl] at hj
    simpa using hj
end Go.Proofs.YtjoechkdmdinoaaGreatDoor
namespace Go.Proofs.YtjoechkdmdinoaaGreatDoor
open Go.RowKit
set_option linter.unusedVariables false
set_option linter.unusedSimpArgs false
/-- block r is a console with this file. -/
def ConX (w : World) (r : Nat) (F : ByteArray) : Prop := ∃ (kd fb bu : Int) (g : Bool), w.heap[r]? = some (.cells #[.string F, .int .i64 kd, .int .i64 fb, .bool g, .int .i64 bu] 85 (0, 0))
theorem ConX.lt {w : World} {r : Nat} {F : ByteArray} (h : ConX w r F) : r < w.heap.size := by
  obtain ⟨_, _, _, _, h⟩ := h
  exact (Array.getElem?_eq_some_iff.1 h).1
theorem ConX.bel {w w' : World} {r : Nat} {F : ByteArray} (h : ConX w r F) (hb : Below w.heap.size w w') : ConX w' r F := by
  have hl := h.lt
  obtain ⟨a, b, c, d, h⟩ := h
  exact ⟨a, b, c, d, by rw [hb.block r hl]; exact h⟩
theorem ConX.live {w : World} {r : Nat} {F : ByteArray} (h : ConX w r F) : Live w r 0 (.string F) := by
  obtain ⟨_, _, _, _, h⟩ := h
  exact live_of h 0 _ rfl
theorem ConX.set {w : World} {r : Nat} {F : ByteArray} (h : ConX w r F) (G : ByteArray) : ConX (w.setCell ⟨r, 0, none⟩ (.string G)) r G := by
  obtain ⟨a, b, c, d, h⟩ := h
  have h0 := Go.Lib.heap_setCell_same (i := 0) h (.string G)
  exact ⟨a, b, c, d, by rw [h0]; simp⟩
def okS2 : ByteArray := ⟨#[111, 107]⟩
set_option maxRecDepth 100000 in
set_option maxHeartbeats 4000000 in
theorem cload_any (r : Nat) (F A hx : ByteArray) (m : List UInt8) (w : World) (hC : ConX w r F) (hA : A.size ≤ 100000) (hs : hx.size ≤ 100000) (hu : unhL (bl hx) = some m) :
    Calls Tryz.prog 114 #[.pointer (some ⟨r, 0, none⟩), .string A, .string hx] w fun e w' => e = .returned (.string ⟨#[111, 107]⟩) ∧ ∃ w1, Below w.heap.size w w1 ∧ w' = w1.setCell ⟨r, 0, none⟩ (.string (A ++ ⟨m.toArray⟩)) := by
  obtain ⟨M, hM⟩ : ∃ M : ByteArray, M = ⟨m.toArray⟩ := ⟨_, rfl⟩
  have hMs : M.size ≤ 100000 := by
    have h2 := (hxL_unhL _ _ _ (Nat.le_refl _) hu).2
    rw [bl_length] at h2
    rw [hM]
    show m.length ≤ _
    omega
  have ku : ∀ w', Calls Tryz.prog 22 #[.string hx] w' fun e w'' => e = .returned (.tuple #[.string M, .bool true]) ∧ Below w'.heap.size w' w'' := fun w' => by
    have := punhex_any hx w' (by omega)
    unfold unV at this
    rw [hu] at this
    simp only [← hM] at this
    exact this
  rw [← hM]
  have l0 := hC.live
  have s1 : ¬ 9223372036854775807 < A.size + M.size := by omega
  have s2 : ¬ (A.size : Int) + (M.size : Int) > 1048576 := by omega
  have s3 : IntKind.i64.wrap ((A.size : Int) + (M.size : Int)) = (A.size : Int) + (M.size : Int) := wi64 _ (by omega) (by omega)
  have KU := Lib.hid ku
  have L0 := Lib.hid l0
  clear ku l0
  clear hC hM hu
  go_enter Tryz.func114, Tryz.ntmps114
  go_wp2_with (go_at_call 22; (with_reducible refine (KU.out _).mono ?_); rintro e w1 ⟨rfl, hb1⟩; obtain ⟨c0, c0'⟩ := L0.out.keep hb1)
  go_ret
  exact ⟨rfl, _, hb1, rfl⟩
set_option maxRecDepth 100000 in
set_option maxHeartbeats 4000000 in
theorem casked_any (r : Nat) (F hx : ByteArray) (m : List UInt8) (more : Bool) (w : World) (hC : ConX w r F) (hF : F.size ≤ 100000) (hs : hx.size ≤ 100000) (hu : unhL (bl hx) = some m) :
    Calls Tryz.prog 67 #[.pointer (some ⟨r, 0, none⟩), .string (if more then ⟨#[109, 111, 114, 101]⟩ else ⟨#[102, 105, 108, 101]⟩), .string hx] w fun e w' => e = .returned (.string ⟨#[111, 107]⟩) ∧ ∃ w1, Below w.heap.size w w1 ∧ w' = w1.setCell ⟨r, 0, none⟩ (.string ((if more then F else ⟨#[]⟩) ++ ⟨m.toArray⟩)) := by
  have k1 := cload_any r F (if more then F else ⟨#[]⟩) hx m w hC (by cases more; exact Nat.zero_le _; exact hF) hs hu
  obtain ⟨c0, c0'⟩ := hC.live
  cases more with
  | true =>
    simp only [if_true] at k1 ⊢
    have K1 := Lib.hid k1
    clear k1
    clear hC hu
    go_enter Tryz.func67, Tryz.ntmps67
    go_wp2_with (go_at_call 114; (with_reducible refine (K1.out).mono ?_); rintro e w1 ⟨rfl, hz⟩)
    go_ret
    exact ⟨rfl, hz⟩
  | false =>
    simp only [Bool.false_eq_true, if_false] at k1 ⊢
    have K1 := Lib.hid k1
    clear k1
    clear hC hu
    go_enter Tryz.func67, Tryz.ntmps67
    go_wp2_with (go_at_call 114; (with_reducible refine (K1.out).mono ?_); rintro e w1 ⟨rfl, hz⟩)
    go_ret
    exact ⟨rfl, hz⟩
theorem cfile_any (r : Nat) (F : ByteArray) (w : World) (hC : ConX w r F) : Calls Tryz.prog 35 #[.pointer (some ⟨r, 0, none⟩)] w fun e w' => e = .returned (.string F) ∧ w = w' := by
  obtain ⟨c0, c0'⟩ := hC.live
  clear hC
  go_enter Tryz.func35, Tryz.ntmps35
  go_wp2
  go_ret
  exact ⟨rfl, rfl⟩
theorem cnew_any (w : World) : Calls Tryz.prog 32 #[] w fun e w' => e = .returned (.pointer (some ⟨w.heap.size, 0, none⟩)) ∧ w' = w.alloc (.cells #[.string ⟨#[]⟩, .int .i64 0, .int .i64 0, .bool false, .int .i64 0] 85) := by
  go_enter Tryz.func32, Tryz.ntmps32
  go_wp2
  go_ret
  exact ⟨rfl, rfl⟩
theorem cut_more (l : List UInt8) : Go.Lib.cut ([109, 111, 114, 101, 32] ++ l) [32] = ([109, 111, 114, 101], l, true) := by
  simp [Go.Lib.cut, Go.Lib.index, Go.Lib.hasPrefix, List.isPrefixOf]
theorem cut_file (l : List UInt8) : Go.Lib.cut ([102, 105, 108, 101, 32] ++ l) [32] = ([102, 105, 108, 101], l, true) := by
  simp [Go.Lib.cut, Go.Lib.index, Go.Lib.hasPrefix, List.isPrefixOf]
/-- a console does 'more' and 'file'. -/
def wdS (more : Bool) : ByteArray := if more then ⟨#[109, 111, 114, 101, 32]⟩ else ⟨#[102, 105, 108, 101, 32]⟩
set_option maxRecDepth 100000 in
set_option maxHeartbeats 8000000 in
theorem cdo_any (r : Nat) (F hx : ByteArray) (m : List UInt8) (more : Bool) (w : World) (hT : TW w) (hC : ConX w r F) (hF : F.size ≤ 100000) (hs : hx.size ≤ 100000) (hu : unhL (bl hx) = some m) :
    Calls Tryz.prog 34 #[.pointer (some ⟨r, 0, none⟩), .string (wdS more ++ hx)] w fun e w' => ∃ w1, Below w.heap.size w w1 ∧ e = .returned (.slice (some ⟨w1.heap.size, 0, none⟩) 1 1) ∧ w' = (w1.setCell ⟨r, 0, none⟩ (.string ((if more then F else ⟨#[]⟩) ++ ⟨m.toArray⟩))).alloc (.cells #[.string ⟨#[111, 107]⟩] 9) := by
  obtain ⟨S, hS⟩ : ∃ S, S = wdS more ++ hx := ⟨_, rfl⟩
  obtain ⟨W, hW⟩ : ∃ W : ByteArray, W = if more then ⟨#[109, 111, 114, 101]⟩ else ⟨#[102, 105, 108, 101]⟩ := ⟨_, rfl⟩
  have hSl : bl S = bl W ++ 32 :: bl hx := by rw [hS, hW]; cases more <;> simp [wdS, bl, ByteArray.data_append]
  have hSz : S.size < 4294967281 := by
    have : S.size = W.size + 1 + hx.size := by rw [← bl_length, hSl, List.length_append, List.length_cons, bl_length, bl_length]; omega
    have : W.size = 4 := by rw [hW]; cases more <;> rfl
    omega
  have hcut : Go.Lib.cut (bl S) [32] = (bl W, bl hx, true) := by
    rw [hSl, hW]
    cases more
    · exact cut_file (bl hx)
    · exact cut_more (bl hx)
  have kc : Calls Tryz.prog 66 #[.string S, .string ⟨#[32]⟩] w fun e w' => e = .returned (.tuple #[.string W, .string hx, .bool true]) ∧ Below w.heap.size w w' := by
    obtain ⟨mm, hm⟩ := hT.ml
    have C := Tryz.strings_Cut S ⟨#[32]⟩ mm w hSz hm
    refine C.mono fun e w' ⟨h1, n, h2⟩ => ⟨?_, by rw [h2]; exact bdn (Below.refl _ _) n⟩
    rw [h1, show S.data.toList = bl S from rfl, show (⟨#[32]⟩ : ByteArray).data.toList = [32] from rfl, hcut]
  have ka : ∀ w', Below w.heap.size w w' → Calls Tryz.prog 67 #[.pointer (some ⟨r, 0, none⟩), .string W, .string hx] w' fun e w'' => e = .returned (.string ⟨#[111, 107]⟩) ∧ ∃ w1, Below w'.heap.size w' w1 ∧ w'' = w1.setCell ⟨r, 0, none⟩ (.string ((if more then F else ⟨#[]⟩) ++ ⟨m.toArray⟩)) := fun w' hb => by rw [hW]; exact casked_any r F hx m more w' (hC.bel hb) hF hs hu
  obtain ⟨x, hx0⟩ : ∃ x : UInt8, (bl S)[0]? = some x ∧ x ≠ 35 := by
    rw [hSl, hW]
    cases more
    · exact ⟨102, rfl, by decide⟩
    · exact ⟨109, rfl, by decide⟩
  have X : ∀ h, S[0]'h = x := atB_of S 0 x hx0.1
  have hp : 0 < S.size := by rw [← bl_length]; exact (List.getElem?_eq_some_iff.1 hx0.1).1
  have hne : S.toList.isEmpty = false := by
    rw [ByteArray.toList_eq]
    show (bl S).isEmpty = false
    cases hb : bl S with
    | nil => rw [hb] at hx0; cases hx0.1
    | cons _ _ => rfl
  have hx35 : ((x.toNat : Int) == 35) = false := by
    have : ∀ x : UInt8, x ≠ 35 → ((x.toNat : Int) == 35) = false := fun y => byte_all (p := fun y => y ≠ 35 → ((y.toNat : Int) == 35) = false) (by decide) y
    exact this x hx0.2
  have hx36 : ¬ (x.toNat : Int) = 35 := by simpa using hx35
  rw [← hS]
  generalize (if more = true then F else (⟨#[]⟩ : ByteArray)) ++ ⟨m.toArray⟩ = G at *
  have KC := Lib.hid kc
  have KA := Lib.hid ka
  clear kc ka
  clear hS hW hSl hSz hcut hC hu hx0
  go_enter Tryz.func34, Tryz.ntmps34
  go_wp2_with (first
    | (go_at_call 66; (with_reducible refine (KC.out).mono ?_); rintro e w1 ⟨rfl, hb1⟩)
    | (go_at_call 67; (with_reducible refine (KA.out _ hb1).mono ?_); rintro e w2 ⟨rfl, w3, hb3, rfl⟩))
  go_ret
  refine ⟨w3, bt hb1 hb3, ?_, ?_⟩
  · simp
  · simp
set_option maxRecDepth 100000 in
set_option maxHeartbeats 4000000 in
theorem lsame_one (a b : Nat) (x : ByteArray) (w : World) (ha : w.cell? ⟨a, 0, none⟩ = some (.string x)) (hb : w.cell? ⟨b, 0, none⟩ = some (.string x)) :
    Calls Tryz.prog 33 #[.slice (some ⟨a, 0, none⟩) 1 1, .slice (some ⟨b, 0, none⟩) 1 1] w fun e w' => e = .returned (.bool true) ∧ Below w.heap.size w w' := by
  have hxx : (x.toList == x.toList) = true := by simp
  go_enter Tryz.func33, Tryz.ntmps33
  go_wp2_with fail
  go_loopw [13] (fun iv wr => ∃ k : Nat, iv = .int .i64 (k : Int) ∧ k ≤ 1 ∧ Below w.heap.size w wr) (fun iv _ => 1 - (intOf iv).toNat)
  case atStart => exact ⟨0, rfl, Nat.zero_le _, Below.refl _ _⟩
  case round =>
    obtain ⟨k, rfl, hk, hbel⟩ := hrel
    have ha' := kc hbel ha
    have hb' := kc hbel hb
    have HB := Lib.hid hbel
    by_cases h0 : k = 0
    · subst h0
      clear hbel ha hb hk
      go_wp2_with fail
      go_region_held3 (fun w' => w'.cell? ⟨a, 0, none⟩ = some (.string x) ∧ w'.cell? ⟨b, 0, none⟩ = some (.string x)) (first | exact ⟨ha', hb'⟩ | go_keep) (fail)
      all_goals
        go_wp2_with fail
        first
          | exact ⟨⟨1, by go_num, Nat.le_refl _, HB.out⟩, by simp [intOf]⟩
          | exact ⟨⟨1, by go_num, Nat.le_refl _, (bdn HB.out _)⟩, by simp [intOf]⟩
          | exact ⟨⟨1, by go_num, Nat.le_refl _, HB.out.drew⟩, by simp [intOf]⟩
    · have h1 : k = 1 := by omega
      subst h1
      clear hbel ha hb
      go_wp2_with fail
      go_ret
      exact ⟨rfl, HB.out⟩
end Go.Proofs.YtjoechkdmdinoaaGreatDoor
namespace Go.Proofs.YtjoechkdmdinoaaGreatDoor.consoleFiles
open Go Go.Rf Go.RowKit
set_option linter.unusedVariables false
set_option linter.unusedSimpArgs false
theorem aw_run : symEv {} 31 [] = some (one1 (lB true)) := by kernel_rfl
theorem aw_any {w : World} (hG : GW w) : Calls Tryz.prog 31 #[] w fun e w' => e = .returned (.bool true) ∧ Below w.heap.size w w' :=
  letI := sgL [] trivial
  sym_to (vals := []) hG (T := {}) ⟨trivial, trivial, trivial, trivial, trivial, trivial, trivial⟩ rfl aw_run (fun _ => rfl)
/-- what Do leaves, seen from an elder world. -/
def DoPost (w0 : World) (r : Nat) (G : ByteArray) (e : Ending) (w' : World) : Prop :=
  ∃ b, e = .returned (.slice (some ⟨b, 0, none⟩) 1 1) ∧ w'.cell? ⟨b, 0, none⟩ = some (.string ⟨#[111, 107]⟩) ∧ ConX w' r G ∧ Below w0.heap.size w0 w'
theorem do_post (w0 : World) (r : Nat) (F X : ByteArray) (more : Bool) (w : World) (hT : TW w) (hb0 : Below w0.heap.size w0 w) (hr : w0.heap.size ≤ r) (hC : ConX w r F) (hF : F.size ≤ 100000) (hX : X.size ≤ 50000) :
    Calls Tryz.prog 34 #[.pointer (some ⟨r, 0, none⟩), .string (wdS more ++ ⟨(hxL (bl X)).toArray⟩)] w (DoPost w0 r ((if more then F else ⟨#[]⟩) ++ X)) := by
  have hz : (⟨(hxL (bl X)).toArray⟩ : ByteArray).size ≤ 100000 := by
    show (hxL (bl X)).length ≤ _
    rw [hxL_length, bl_length]; omega
  have hu : unhL (bl (⟨(hxL (bl X)).toArray⟩ : ByteArray)) = some (bl X) := unhL_hxL (bl X)
  refine (cdo_any r F ⟨(hxL (bl X)).toArray⟩ (bl X) more w hT hC hF hz hu).mono fun e w' ⟨w1, h1, h2, h3⟩ => ?_
  have eX : (⟨(bl X).toArray⟩ : ByteArray) = X := by simp [bl]
  rw [eX] at h3
  generalize (if more = true then F else (⟨#[]⟩ : ByteArray)) ++ X = G at *
  have hC1 := (hC.bel h1).set G
  have hbb : Below w0.heap.size w0 (w1.setCell ⟨r, 0, none⟩ (.string G)) := (bt hb0 h1).setCell hr _
  have hs : (w1.setCell ⟨r, 0, none⟩ (.string G)).heap.size = w1.heap.size := World.size_setCell _ _ _
  subst h3
  refine ⟨w1.heap.size, h2, ?_, hC1.bel (bal (Below.refl _ _) _), bal hbb _⟩
  rw [← hs]
  exact World.cell?_alloc_new _ _ _ _
theorem same_new (b : Nat) (w : World) (h : w.cell? ⟨b, 0, none⟩ = some (.string ⟨#[111, 107]⟩)) : Calls Tryz.prog 33 #[.slice (some ⟨b, 0, none⟩) 1 1, .slice (some ⟨w.heap.size, 0, none⟩) 1 1] (w.alloc (.cells #[.string ⟨#[111, 107]⟩] 9)) fun e w' => e = .returned (.bool true) ∧ Below w.heap.size w w' := by
  have hb := bal (Below.refl w.heap.size w) (.cells #[.string ⟨#[111, 107]⟩] 9)
  exact (lsame_one b w.heap.size ⟨#[111, 107]⟩ _ (kc hb h) (World.cell?_alloc_new _ _ _ _)).mono fun e w' q => ⟨q.1, bt hb q.2⟩
set_option maxRecDepth 100000 in
set_option maxHeartbeats 16000000 in
theorem walk (v : Value) (ts : List ByteArray) (w : World) (R : Row w v ts.length (scells ts)) (hG : GW w) :
    Calls Tryz.prog 9 #[v] w fun e w' => e = .returned (.bool true) ∧ Below w.heap.size w w' := by
  obtain ⟨n, hn⟩ : ∃ n, n = ts.length := ⟨_, rfl⟩
  rw [← hn] at R
  obtain ⟨av, cap, rfl, hc⟩ := R
  have KA := Lib.hid fun (w' : World) (hb : Below w.heap.size w w') => aw_any (hG.bel hb)
  by_cases h10 : n > 10
  · have g : (n : Int) > 10 := by omega
    clear hc hn h10
    go_enter Tryz.func9, Tryz.ntmps9
    go_wp2_with (go_at_call 31; (with_reducible refine (KA.out _ (Below.refl _ _)).mono ?_); rintro e w1 ⟨rfl, hb1⟩)
    go_ret
    exact ⟨rfl, hb1⟩
  · have g : ¬ (n : Int) > 10 := by omega
    have hn10 : n ≤ 10 := by omega
    obtain ⟨r, hr⟩ : ∃ r, r = w.heap.size := ⟨_, rfl⟩
    have KN : Hid (Calls Tryz.prog 32 #[] w fun e w' => e = .returned (.pointer (some ⟨r, 0, none⟩)) ∧ ConX w' r ⟨#[]⟩ ∧ Below w.heap.size w w') := (cnew_any w).mono fun e w' ⟨h1, h2⟩ => ⟨by rw [h1, hr], by
      rw [h2, hr]
      refine ⟨⟨0, 0, 0, false, ?_⟩, bal (Below.refl _ _) _⟩
      exact Array.getElem?_push_size⟩
    have hrl : w.heap.size ≤ r := by omega
    have HT : Hid (∀ w', Below w.heap.size w w' → TW w') := fun w' hb => (hG.bel hb).tw
    have HN := Lib.hid hn
    have HC := Lib.hid hc
    have KR := Lib.hid fun (X : ByteArray) (w : World) (h : X.size ≤ 1000000) => rhex_any X w h
    have KF := Lib.hid fun (F : ByteArray) (w' : World) (h : ConX w' r F) => cfile_any r F w' h
    have KS := Lib.hid same_new
    clear hc hn hr h10 hG
    go_enter Tryz.func9, Tryz.ntmps9
    go_wp2_with (go_at_call 32; (with_reducible refine (KN.out).mono ?_); rintro e w1 ⟨rfl, hC1, hb1⟩)
    go_loopw [4, 16] (fun sv iv wr => ∃ (k : Nat) (T : ByteArray), sv = .string T ∧ iv = .int .i64 (k : Int) ∧ k ≤ n ∧ T.size ≤ 200 * k ∧ Hid (ConX wr r T) ∧ Hid (Below w.heap.size w wr)) (fun _ iv _ => n - (intOf iv).toNat)
    case atStart => exact ⟨0, ⟨#[]⟩, rfl, rfl, Nat.zero_le _, Nat.le_refl _, Lib.hid hC1, Lib.hid hb1⟩
    case round =>
      clear hC1 hb1
      obtain ⟨k, T, rfl, rfl, hk, hT, HCX, HB⟩ := hrel
      by_cases hlt : k < n
      · obtain ⟨p, hp⟩ := at_some ts k (by rw [← HN.out]; exact hlt)
        obtain ⟨a, o, rfl, d0⟩ := HC.out k (.string p) (by unfold scells; rw [List.getElem?_map, hp]; rfl)
        have d1 := kc HB.out d0
        have gk : (k : Int) < (n : Int) := by omega
        clear hp d0
        by_cases hp2 : p.size > 200
        · have g2 : (p.size : Int) > 200 := by omega
          go_wp2_with (go_at_call 31; (with_reducible refine (KA.out _ HB.out).mono ?_); rintro e w2 ⟨rfl, hb2⟩)
          go_ret
          exact ⟨rfl, bt HB.out hb2⟩
        · have g2 : ¬ (p.size : Int) > 200 := by omega
          obtain ⟨H, hH⟩ : ∃ H : ByteArray, H = ⟨(hxL (bl p)).toArray⟩ := ⟨_, rfl⟩
          have hHs : H.size = 2 * p.size := by rw [hH]; show (hxL (bl p)).length = _; rw [hxL_length, bl_length]
          have KR1 : Hid (∀ w', Calls Tryz.prog 23 #[.string p] w' fun e w'' => e = .returned (.string H) ∧ Below w'.heap.size w' w'') := fun w' => by rw [hH]; exact KR.out p w' (by omega)
          have KD : Hid (∀ w', Below wr.heap.size wr w' → Calls Tryz.prog 34 #[.pointer (some ⟨r, 0, none⟩), .string (⟨#[109, 111, 114, 101, 32]⟩ ++ H)] w' (DoPost w r (T ++ p))) := fun w' hb => by
            rw [hH]
            exact do_post w r T p true w' (HT.out w' (bt HB.out hb)) (bt HB.out hb) hrl (HCX.out.bel hb) (by omega) (by omega)
          have s1 : ¬ 9223372036854775807 < T.size + p.size := by omega
          have s2 : ¬ 9223372036854775807 < (⟨#[109, 111, 114, 101, 32]⟩ : ByteArray).size + H.size := by show ¬ _ < 5 + _; omega
          have s3 : ¬ 9223372036854775807 < 5 + H.size := by omega
          have hbw := Below.refl wr.heap.size wr
          clear hH
          go_wp2_with (first
            | (go_at_call 23; (with_reducible refine (KR1.out _).mono ?_); rintro e w2 ⟨rfl, hb2⟩)
            | (go_at_call 34; (with_reducible refine (KD.out _ hb2).mono ?_); rintro e w3 ⟨b, rfl, hcell, hC3, hb3⟩)
            | (go_at_call 33; (with_reducible refine (KS.out _ _ hcell).mono ?_); rintro e w4 ⟨rfl, hb4⟩; have hC4 := hC3.bel hb4; have hb5 := bt hb3 hb4)
            | (go_at_call 35; (with_reducible refine (KF.out _ _ hC4).mono ?_); rintro e w5 ⟨rfl, rfl⟩))
          go_roundw
          case rel => exact ⟨k + 1, T ++ p, rfl, by go_num, by omega, by rw [ByteArray.size_append]; omega, Lib.hid hC4, Lib.hid hb5⟩
          case measure => simp [intOf]; omega
      · have hkn : k = n := by omega
        have gk : ¬ (k : Int) < (n : Int) := by omega
        obtain ⟨H, hH⟩ : ∃ H : ByteArray, H = ⟨(hxL (bl T)).toArray⟩ := ⟨_, rfl⟩
        have hHs : H.size = 2 * T.size := by rw [hH]; show (hxL (bl T)).length = _; rw [hxL_length, bl_length]
        have KR1 : Hid (∀ w', Calls Tryz.prog 23 #[.string T] w' fun e w'' => e = .returned (.string H) ∧ Below w'.heap.size w' w'') := fun w' => by rw [hH]; exact KR.out T w' (by omega)
        have KD : Hid (∀ w', Below wr.heap.size wr w' → Calls Tryz.prog 34 #[.pointer (some ⟨r, 0, none⟩), .string (⟨#[102, 105, 108, 101, 32]⟩ ++ H)] w' (DoPost w r T)) := fun w' hb => by
          rw [hH]
          have := do_post w r T T false w' (HT.out w' (bt HB.out hb)) (bt HB.out hb) hrl (HCX.out.bel hb) (by omega) (by omega)
          simp only [Bool.false_eq_true, if_false] at this
          rw [show (⟨#[]⟩ : ByteArray) ++ T = T from by apply bl_eq'; simp [ByteArray.data_append]] at this
          exact this
        have s2 : ¬ 9223372036854775807 < (⟨#[102, 105, 108, 101, 32]⟩ : ByteArray).size + H.size := by show ¬ _ < 5 + _; omega
        have s3 : ¬ 9223372036854775807 < 5 + H.size := by omega
        clear hH
        go_wp2_with (first
          | (go_at_call 31; (with_reducible refine (KA.out _ HB.out).mono ?_); rintro e w1 ⟨rfl, hb1⟩)
          | (go_at_call 23; (with_reducible refine (KR1.out _).mono ?_); rintro e w2 ⟨rfl, hb2⟩; have hb12 := bt hb1 hb2)
          | (go_at_call 34; (with_reducible refine (KD.out _ hb12).mono ?_); rintro e w3 ⟨b, rfl, hcell, hC3, hb3⟩)
          | (go_at_call 33; (with_reducible refine (KS.out _ _ hcell).mono ?_); rintro e w4 ⟨rfl, hb4⟩; have hC4 := hC3.bel hb4; have hb5 := bt hb3 hb4)
          | (go_at_call 35; (with_reducible refine (KF.out _ _ hC4).mono ?_); rintro e w5 ⟨rfl, rfl⟩))
        go_ret
        exact ⟨by simp, hb5⟩
end Go.Proofs.YtjoechkdmdinoaaGreatDoor.consoleFiles
namespace Go.Proofs.YtjoechkdmdinoaaGreatDoor.consoleFiles
open Go.ChangeShapes Go.WideShapes Go.ChangeAt Go.RowKit Go.Lib Go.ChangeMaps
set_option linter.unusedVariables false
set_option linter.unusedSimpArgs false
abbrev laidL : List (String × DataW Unit) := [("diacritic/report.kinds", Rows.laid_diacritic_report_kinds), ("strconv.ErrSyntax", Rows.laid_strconv_ErrSyntax), ("strconv.ErrRange", Rows.laid_strconv_ErrRange), ("internal/strconv.uint64pow10", Rows.laid_internal_strconv_uint64pow10), ("math/bits.deBruijn32tab", Rows.laid_math_bits_deBruijn32tab), ("math/bits.deBruijn64tab", Rows.laid_math_bits_deBruijn64tab), ("unicode/utf8.first", Rows.laid_unicode_utf8_first), ("unicode/utf8.acceptRanges", Rows.laid_unicode_utf8_acceptRanges), ("diacritic/sniff.starts", Rows.laid_diacritic_sniff_starts)]
theorem laidL_met (os : Os) (args : Array Value) : laidMetH Tryz.prog laidL ((World.laidAll Tryz.prog os laidL).forCall (fun _ _ => 0) ⟨#[], args, []⟩).memory := by
  rw [MakeChecks.laidMetH_plain _ _ _ (by kernel_rfl)]
  exact laidMet_laidAll _ (by kernel_rfl) (by kernel_rfl)
theorem laidL_shaped (os : Os) (args : Array Value) : ((World.laidAll Tryz.prog os laidL).forCall (fun _ _ => 0) ⟨#[], args, []⟩).Shaped Tryz.prog := World.shaped_of_ZipB (by kernel_rfl) (by kernel_rfl)
set_option maxRecDepth 100000 in
theorem lifted (os : Os) (started : os.Started) (H : Type) (enc : TypeId × Value → H) :
    ReturnsInHanded {} Tryz.checked os 9 .any (fun w args => (Rows.consoleFilesSpec.pre enc Tryz.prog Tryz.f9 Rows.consoleFilesRow.domain false w args ∧ laidMetH Tryz.prog laidL w) ∧ sizedMet enc Tryz.prog Tryz.f9 (OpenSpec.ofChange Rows.consoleFilesSpec) false w args) (Rows.consoleFilesSpec.post enc Tryz.prog Tryz.f9 false true false false) := by
  refine handed_laid_shaped (C := Tryz.checked) (X := fun w => laidMetH Tryz.prog laidL w) (fun _ _ hh h => h.of_heap hh) own started (by kernel_rfl) Tryz.func9
    (ChangeSpec.witness_shaped (enc := enc) (C := Tryz.checked) (os := os) (X := fun w _ => laidMetH Tryz.prog laidL w) false (World.laidAll Tryz.prog os laidL) #[.slice none 0 0] 8 (World.laidAll_os _ _ _) (laidL_shaped os _) (by kernel_rfl) (by kernel_rfl) (by kernel_rfl) (laidL_met os _)) ?_
  intro W base args ds gs before hval0 hW hL hsh
  rw [MakeChecks.laidMetH_plain _ _ _ (by kernel_rfl)] at hL
  have hT := gw_of (Lib.laidMet.reads hL (n := "math/bits.deBruijn32tab") (.tail _ (.tail _ (.tail _ (.tail _ (.head _)))))) (Lib.laidMet.reads hL (n := "unicode/utf8.acceptRanges") (.tail _ (.tail _ (.tail _ (.tail _ (.tail _ (.tail _ (.tail _ (.head _))))))))) (Lib.laidMet.reads hL (n := "unicode/utf8.first") (.tail _ (.tail _ (.tail _ (.tail _ (.tail _ (.tail _ (.head _)))))))) (Lib.laidMet.reads hL (n := "diacritic/sniff.starts") (.tail _ (.tail _ (.tail _ (.tail _ (.tail _ (.tail _ (.tail _ (.tail _ (.head _)))))))))) hsh
  have hval : ∀ (j : Nat) t v, Tryz.f9.params[j]? = some t → args[j]? = some v → Value.okWide Tryz.prog W .any base t v := hval0
  have hW' := hW
  obtain ⟨p, q, hA0, hV, rfl, hfz, hnd⟩ := hW
  have hA : DataW.TrodAll enc Tryz.prog W 0 (fun _ => true) true Tryz.f9.params.toList args.toList ds p := hA0
  rw [Tryz.params9] at hA hval
  obtain ⟨v0, vs0, d0, ds0, p0, q0, hargs, rfl, rfl, h0, r0⟩ := trodAll_cons hA
  obtain ⟨rfl, rfl, rfl⟩ := trodAll_nil r0
  obtain rfl : args = #[v0] := by cases args; simp_all
  obtain ⟨rfl, rfl⟩ := trodVars_none hV
  have h0k := h0
  obtain ⟨a0, R0⟩ := open_strs (hval 0 51 v0 rfl rfl) h0
  clear hA0 hval0
  simp only [List.append_nil] at hW'
  refine (walk v0 a0  W R0 hT).mono fun e W' ⟨he, hg⟩ => ?_
  subst he
  have T0 := Below.trod (W' := W') (by kernel_rfl) (by kernel_rfl) (of_decide_eq_true (by kernel_rfl)) h0k hg (fun x hx => by simpa using hW'.lt x (by simp [hx]))
  exact ⟨_, rfl, post_below (pa := _) (pv := []) hW' (trodAll_cons_mk (shut_bool Tryz.underlying4 _) trodAll_mk0) (trodAll_cons_mk T0 trodAll_mk0) rfl hg⟩

theorem over : Rows.consoleFilesRow.holds Tryz.pinned (OpenSpec.ofChange Rows.consoleFilesSpec) :=
  OpenClaim.holds_of_wide 9 Tryz.f9 rfl rfl rfl rfl rfl rfl rfl ⟨rfl, rfl, rfl, rfl, rfl⟩ rfl rfl rfl rfl rfl k_named Tryz.func9 k_joined (of_decide_eq_true (by kernel_rfl)) k_wrap
    (fun os started H enc _ => lifted os started H enc)

/-- THE STATEMENT: the tied card -/
theorem proved : Rows.ConsoleFilesCardSaid :=
  Claim7.holds_tied_plain_at .later [] [.data, .sentinel, .sentinel, .data, .data, .data, .pinned, .data, .data] true Rows.consoleFilesCard.stood.harness Rows.consoleFilesCard.stood.looks over (fun _ h => by cases h) k_wf (fun _ h => by cases h) consoleFiles_row_tie rfl ⟨rfl, rfl⟩ k_main rfl
    (fun f fn hf hfn => by
      obtain rfl : f = 9 := Option.some.inj (k_named.symm.trans hf) |>.symm
      obtain rfl : fn = Tryz.f9 := (Option.some.inj (Tryz.func9.symm.trans hfn)).symm
      exact ⟨k_looks, fun j t ht => by
        rw [Tryz.params9] at ht
        have hm : t ∈ [51] := by simpa using Array.mem_of_getElem? ht
        exact (show Tryz.prog.wantsStandIn t = false by simpa using List.all_eq_true.1 k_stand t hm)⟩)
    k_goes
#print axioms proved
end Go.Proofs.YtjoechkdmdinoaaGreatDoor.consoleFiles
