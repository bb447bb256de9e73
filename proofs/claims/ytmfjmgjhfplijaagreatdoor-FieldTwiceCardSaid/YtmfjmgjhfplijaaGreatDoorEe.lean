/- Fz, Fu -/
import Derived.Deep.RegionHeld3
import Derived.Test.YtmfjmgjhfplijaaGreatDoorEd
import Derived.Test.YtmfjmgjhfplijaaGreatDoorEc
import Derived.Test.YtmfjmgjhfplijaaGreatDoorEb
import Derived.Test.YtmfjmgjhfplijaaGreatDoorEa
import Derived.Test.YtmfjmgjhfplijaaGreatDoorMCi
import Derived.Test.YtmfjmgjhfplijaaGreatDoorMSk
import Derived.Test.YtmfjmgjhfplijaaGreatDoorMZA
import Derived.Test.YtmfjmgjhfplijaaGreatDoorMPo
import Derived.Test.YtmfjmgjhfplijaaGreatDoorMOx
import Derived.Test.YtmfjmgjhfplijaaGreatDoorMBj
import Derived.Test.YtmfjmgjhfplijaaGreatDoorMPu
import Derived.Test.YtmfjmgjhfplijaaGreatDoorMCk
import Derived.Test.YtmfjmgjhfplijaaGreatDoorMRx
import Derived.Test.YtmfjmgjhfplijaaGreatDoorMTm
import Derived.Test.YtmfjmgjhfplijaaGreatDoorMCp
import Derived.Test.YtmfjmgjhfplijaaGreatDoorMFb
import Derived.Test.YtmfjmgjhfplijaaGreatDoorMCy
import Derived.Test.YtmfjmgjhfplijaaGreatDoorMTv
import Derived.Test.YtmfjmgjhfplijaaGreatDoorMAy
import Derived.Deep.CutRange
namespace Go.Proofs.YtmfjmgjhfplijaaGreatDoor
open Go.RowKit
set_option linter.unusedVariables false
set_option linter.unusedSimpArgs false

theorem infoPart : (Tryz.prog.info? 60).map (fun i => (i.zero, i.size, i.bytes)) = some (some (.agg #[.string ⟨#[]⟩, .bool false, .string ⟨#[]⟩, .int .i64 0]), 4, 48) := by kernel_rfl
/-- a piece, whatever its letter. -/
theorem fpiece_any (w : World) (r : Nat) (x : RS) (enc : Nat) (kd fb bu : Int) (g : Bool) (c : UInt8) (hT : TW w) (hr : 4 ≤ r) (h : InX w r x) (hk : okR x) (hs : x.s.size ≤ 1048576) (he : enc < 256) (hc : c ∈ letF) :
    Calls Tryz.prog 55 #[.agg #[.pointer (some ⟨r, 0, none⟩), .int .u8 enc, .int .i64 kd, .int .i64 fb, .bool g, .int .i64 bu], .int .u8 (c.toNat : Int)] w
      fun v w' => v = .returned (.agg #[.string (pieceR (RM fb g) enc x c).2.name, .bool (pieceR (RM fb g) enc x c).2.raw, .string (pieceR (RM fb g) enc x c).2.text, .int .i64 (pieceR (RM fb g) enc x c).2.set]) ∧ InX w' r (pieceR (RM fb g) enc x c).1 ∧ w.grownBy w' (some r) := by
  simp only [letF, List.mem_cons, List.not_mem_nil, or_false] at hc
  rcases hc with h1 | h1 | h1 | h1 | h1 | h1 | h1
  · exact fpiece_raw w r x enc kd fb bu g c h hk (.inl h1)
  · exact fpiece_raw w r x enc kd fb bu g c h hk (.inr (.inl h1))
  · exact fpiece_raw w r x enc kd fb bu g c h hk (.inr (.inr (.inr (.inl h1))))
  · exact fpiece_raw w r x enc kd fb bu g c h hk (.inr (.inr (.inl h1)))
  · exact fpiece_text w r x enc kd fb bu g c hT hr h hk hs he (.inl h1)
  · exact fpiece_text w r x enc kd fb bu g c hT hr h hk hs he (.inr h1)
  · exact fpiece_raw w r x enc kd fb bu g c h hk (.inr (.inr (.inr (.inr h1))))
theorem okR_until {x : RS} (h : okR x) (e : List UInt8) : okR (untilR x e).1 := by
  unfold untilR
  split
  · exact h
  · split
    · next p hp =>
      obtain ⟨h1, h2, h3⟩ := h
      have := findE_le _ _ _ _ hp
      rw [List.length_drop, bl_length] at this
      exact ⟨by simp only; omega, h2, h3⟩
    · exact okR_fail h _ _
theorem okR_piece {R : List UInt8 → Int} {x : RS} (h : okR x) (enc : Nat) (c : UInt8) : okR (pieceR R enc x c).1 ∧ (pieceR R enc x c).1.s = x.s := by
  have hr : okR (rawR enc x c).1 := by
    unfold rawR
    repeat' split
    all_goals first | exact okR_take h _ | exact okR_until h _
  unfold pieceR
  split
  · refine ⟨?_, by rw [words_s, rawR_s]⟩
    unfold wordsR
    split
    · exact hr
    · exact okR_fail hr _ _
  · exact ⟨hr, rawR_s _ _ _⟩
/-- what stands while a frame is read: the fault that is handed back, the scan in block H, the reader in block r. -/
structure QS (w : World) (r H : Nat) (x : RS) (enc : Nat) (kd fb bu : Int) (g : Bool) (wr : World) : Prop where
  gg : Below w.heap.size w wr
  rt : wr.heap[w.heap.size + 1]? = some (.cells #[.int .i64 0, .int .i64 0] 34 (0, 0))
  sc : wr.heap[H]? = some (.cells #[.pointer (some ⟨r, 0, none⟩), .int .u8 enc, .int .i64 kd, .int .i64 fb, .bool g, .int .i64 bu] 126 (0, 0))
  rd : InX wr r x
  hr : w.heap.size + 2 ≤ r
  hH : w.heap.size + 2 ≤ H
  ne : H ≠ r
section
variable {w wr : World} {r H : Nat} {x : RS} {enc : Nat} {kd fb bu : Int} {g : Bool}
theorem QS.bel (h : QS w r H x enc kd fb bu g wr) {w' : World} (hb : Below wr.heap.size wr w') : QS w r H x enc kd fb bu g w' := by
  obtain ⟨a, b, c, d, e, f, i⟩ := h
  exact ⟨bt a hb, blkB b hb, blkB c hb, d.bel hb, e, f, i⟩
theorem QS.gr (h : QS w r H x enc kd fb bu g wr) {w' : World} {y : RS} (hg : wr.grownBy w' (some r)) (hi : InX w' r y) : QS w r H y enc kd fb bu g w' := by
  obtain ⟨a, b, c, d, e, f, i⟩ := h
  exact ⟨grown_bel a hg (by omega), blkG b hg (by omega), blkG c hg i, hi, e, f, i⟩
theorem QS.coded (h : QS w r H x enc kd fb bu g wr) (k : Nat) : QS w r H x k kd fb bu g (wr.setCell ⟨H, 1, none⟩ (.int .u8 k)) := by
  obtain ⟨a, b, c, d, e, f, i⟩ := h
  refine ⟨a.setCell (by simp; omega) _, (set_other _ _ _ _ _ (by omega)).trans b, ?_, InC.blk d (set_other _ _ _ _ _ (fun h => i h.symm)), e, f, i⟩
  rw [Go.Lib.heap_setCell_same (i := 1) c (.int .u8 k)]
  simp
theorem QS.lt (h : QS w r H x enc kd fb bu g wr) : r < wr.heap.size ∧ H < wr.heap.size := ⟨h.rd.lt, (Array.getElem?_eq_some_iff.1 h.sc).1⟩
end
/-- what Parse answers. -/
def FieldPost (D : List PF × Int × Int) (w : World) (e : Ending) (w' : World) : Prop :=
  Below w.heap.size w w' ∧ ∃ v, e = .returned (.tuple #[v, .agg #[.int .i64 D.2.1, .int .i64 D.2.2]]) ∧ w'.ownsRow w.heap.size 60 4 v D.1.length (fcells D.1)
set_option maxRecDepth 100000 in
set_option maxHeartbeats 4000000 in
/-- a frame of which no piece is known. -/
theorem fparse_none (v : Int) (id body : ByteArray) (kd fb bu : Int) (g : Bool) (w : World) (hi : id.size ≤ 1073741824) (hy : layM v (bl id) = []) :
    Calls Tryz.prog 15 #[.int .i64 v, .string id, .string body, .agg #[.int .i64 kd, .int .i64 fb, .bool g, .int .i64 bu]] w (FieldPost (fparF (RM fb g) v (layM v (bl id)) body) w) := by
  have hD : fparF (RM fb g) v (layM v (bl id)) body = ([⟨nameF 114, true, body, 0⟩], 0, 0) := by unfold fparF; rw [if_pos hy]
  rw [hD]
  have k1 := fun w => layout_any v id w hi
  rw [hy] at k1
  have k2 : ∀ w, Calls Tryz.prog 53 #[.int .u8 114] w fun e w' => e = .returned (.string (nameF 114)) ∧ Below w.heap.size w w' := fun w => fname_any 114 w (by decide)
  generalize nameF 114 = nm at *
  obtain ⟨W, hW⟩ : ∃ W, W = (w.alloc (.cells #[.int .i64 kd, .int .i64 fb, .bool g, .int .i64 bu] 39)).alloc (.cells #[.int .i64 0, .int .i64 0] 34) := ⟨_, rfl⟩
  have hs1 : (w.alloc (.cells #[.int .i64 kd, .int .i64 fb, .bool g, .int .i64 bu] 39)).heap.size = w.heap.size + 1 := World.size_alloc _ _
  have F : W.heap[w.heap.size + 1]? = some (.cells #[.int .i64 0, .int .i64 0] 34 (0, 0)) := by rw [hW, ← hs1]; exact heap_alloc_new _ _
  have hbW : Below w.heap.size w W := by rw [hW]; exact bal (bal (Below.refl _ _) _) _
  have hWs : W.heap.size = w.heap.size + 2 := by rw [hW, World.size_alloc, hs1]
  have K1 := Lib.hid k1
  have K2 := Lib.hid k2
  have F0 := Lib.hid F
  have HBW := Lib.hid hbW
  have HWS := Lib.hid hWs
  clear k1 k2 F hbW hWs
  clear hD hy hs1
  go_enter Tryz.func15, Tryz.ntmps15
  go_wp2_with fail
  rw [← hW]
  clear hW
  go_wp2_with (first
    | (go_at_call 52; go_loud (with_reducible refine (K1.out _).mono ?_); go_loud (rintro e1 w1 ⟨rfl, hb1⟩))
    | (go_at_call 53; go_loud (with_reducible refine (K2.out _).mono ?_); go_loud (rintro e1 w2 ⟨rfl, hb2⟩); go_loud (have hb12 := bt hb1 hb2); go_loud (have hb13 := bal hb12 (.cells #[.string nm, .bool true, .string body, .int .i64 0] 60)); go_loud (obtain ⟨q0, q0'⟩ := live_of (blkB F0.out hb13) 0 _ rfl); go_loud (obtain ⟨q1, q1'⟩ := live_of (blkB F0.out hb13) 1 _ rfl)))
  refine bodyPost_ret (v := .tuple #[.slice (some ⟨w2.heap.size, 0, none⟩) 1 1, .agg #[.int .i64 0, .int .i64 0]]) (by simp [results, Tryz.results15, go_sem, q0, q1, q0', q1']) rfl ?_
  refine ⟨((HBW.out.trans (hb13.mono HBW.out.size)).setCell (by simp) _).setCell (by simp) _, _, rfl, ?_⟩
  have ho : (w2.alloc (.cells #[.string nm, .bool true, .string body, .int .i64 0] 60)).ownsRow w2.heap.size 60 4 (.slice (some ⟨w2.heap.size, 0, none⟩) 1 1) 1 (fcells [⟨nm, true, body, 0⟩]) :=
    World.ownsRow_lit (size := 4) (base := w2.heap.size) w2 #[.string nm, .bool true, .string body, .int .i64 0] 1 (Nat.le_refl _) (by unfold maxLen; omega) rfl
  have hz := hb12.size
  rw [HWS.out] at hz
  exact orow_mono (orow_other ho fun k hk => (set_other _ _ _ _ k (by have := (orow_blk ho k hk).1; omega)).trans (set_other _ _ _ _ k (by have := (orow_blk ho k hk).1; omega))) (by omega)
end Go.Proofs.YtmfjmgjhfplijaaGreatDoor

namespace Go.Proofs.YtmfjmgjhfplijaaGreatDoor
open Go.RowKit
set_option linter.unusedVariables false
set_option linter.unusedSimpArgs false

def st6 (w : World) (B : Nat) (a b c d e f : Value) : World := (((((w.setCell ⟨B, 0, none⟩ a).setCell ⟨B, 1, none⟩ b).setCell ⟨B, 2, none⟩ c).setCell ⟨B, 3, none⟩ d).setCell ⟨B, 4, none⟩ e).setCell ⟨B, 5, none⟩ f
theorem st6_blk {w : World} {B : Nat} {t : TypeId} {x y z u v k : Value} (h : w.heap[B]? = some (.cells #[x, y, z, u, v, k] t (0, 0))) (a b c d e f : Value) : (st6 w B a b c d e f).heap[B]? = some (.cells #[a, b, c, d, e, f] t (0, 0)) := by
  have h0 := Go.Lib.heap_setCell_same (i := 0) h a
  have h1 := Go.Lib.heap_setCell_same (i := 1) h0 b
  have h2 := Go.Lib.heap_setCell_same (i := 2) h1 c
  have h3 := Go.Lib.heap_setCell_same (i := 3) h2 d
  have h4 := Go.Lib.heap_setCell_same (i := 4) h3 e
  have h5 := Go.Lib.heap_setCell_same (i := 5) h4 f
  unfold st6
  rw [h5]
  simp
theorem st6_other (w : World) (B : Nat) (a b c d e f : Value) (j : Nat) (hj : j ≠ B) : (st6 w B a b c d e f).heap[j]? = w.heap[j]? := by
  unfold st6
  rw [set_other _ _ _ _ j hj, set_other _ _ _ _ j hj, set_other _ _ _ _ j hj, set_other _ _ _ _ j hj, set_other _ _ _ _ j hj, set_other _ _ _ _ j hj]
theorem QS.push {w wr : World} {r H : Nat} {x : RS} {enc : Nat} {kd fb bu : Int} {g : Bool} (h : QS w r H x enc kd fb bu g wr) {w' : World} {B : Nat} (hb : Below B wr w') (h1 : r < B) (h2 : H < B) (h3 : w.heap.size + 2 ≤ B) : QS w r H x enc kd fb bu g w' := by
  obtain ⟨a, b, c, d, e, f, i⟩ := h
  exact ⟨a.trans (hb.mono (by omega)), (hb.block _ (by omega)).trans b, (hb.block _ h2).trans c, InC.blk d (hb.block _ h1), e, f, i⟩
theorem QS.other {w wr : World} {r H : Nat} {x : RS} {enc : Nat} {kd fb bu : Int} {g : Bool} (h : QS w r H x enc kd fb bu g wr) {w' : World} {G : Nat} (hb : ∀ j, j ≠ G → w'.heap[j]? = wr.heap[j]?) (gg : Below w.heap.size w w') (h1 : w.heap.size + 1 ≠ G) (h2 : H ≠ G) (h3 : r ≠ G) : QS w r H x enc kd fb bu g w' := by
  obtain ⟨a, b, c, d, e, f, i⟩ := h
  exact ⟨gg, (hb _ h1).trans b, (hb _ h2).trans c, InC.blk d (hb _ h3), e, f, i⟩
/-- the bytes ahead: the encoding. -/
theorem big_body (body : ByteArray) : bigR ⟨body, 0, 0, 0, 0⟩ 1 = match bl body with
    | [] => (⟨body, 0, 0, 1, 0⟩, 0)
    | b :: _ => (⟨body, 1, 0, 0, 0⟩, b.toNat) := by
  have hl := bl_length body
  unfold bigR takeR
  cases hb : bl body with
  | nil =>
    rw [hb] at hl
    have hz : body.size = 0 := hl.symm
    simp only
    rw [if_neg (by simp), if_pos (by right; rw [hz]; decide)]
    unfold shortR failR
    simp only
    rw [if_pos (by simp), hz]
    rfl
  | cons b t =>
    rw [hb] at hl
    have hz : body.size = t.length + 1 := hl.symm
    simp only
    rw [if_neg (by simp), if_neg (by rw [hz]; omega)]
    have he : bl (body.extract 0 (0 + (1 : Int).toNat)) = [b] := by
      rw [bl_extract, hb]; rfl
    have hc : ((1 : Nat) : Int).toNat = 1 := rfl
    simp only [hc]
    rw [show (0 + 1) = 0 + (1 : Int).toNat from rfl, he, show beN [b] = b.toNat by simp [beN]]
    rfl
set_option maxRecDepth 100000 in
set_option maxHeartbeats 4000000 in
/-- a frame whose pieces are known. -/
theorem fparse_main (v : Int) (id body : ByteArray) (kd fb bu : Int) (g : Bool) (w : World) (hT : TW w) (hi : id.size ≤ 1073741824) (hbs : body.size ≤ 1048576) (hy : layM v (bl id) ≠ []) :
    Calls Tryz.prog 15 #[.int .i64 v, .string id, .string body, .agg #[.int .i64 kd, .int .i64 fb, .bool g, .int .i64 bu]] w (FieldPost (fparF (RM fb g) v (layM v (bl id)) body) w) := by
  have k1 := fun w => layout_any v id w hi
  have hyl := layM_is v (bl id)
  have hu : fparF (RM fb g) v (layM v (bl id)) body = match bl body with
      | [] => ([], 1, 0)
      | b :: _ => if mayM v b.toNat = false then ([], 1, 0) else piecesR (RM fb g) b.toNat (layM v (bl id)) ⟨body, 1, 0, 0, 0⟩ [] := by
    unfold fparF
    rw [if_neg hy]
    cases bl body <;> rfl
  obtain ⟨D, hD⟩ : ∃ D, D = fparF (RM fb g) v (layM v (bl id)) body := ⟨_, rfl⟩
  rw [← hD] at hu ⊢
  clear hD
  generalize layM v (bl id) = y at *
  have hlets := layR_let y hyl
  have hll := (layR_len y hyl).2
  have hR : layR y = y := if_neg hy
  rw [hR] at hlets hll
  clear hR
  obtain ⟨Y, hYd⟩ : ∃ Y : ByteArray, Y = ⟨y.toArray⟩ := ⟨_, rfl⟩
  have hYb : bl Y = y := by rw [hYd]
  have hYs : Y.size = y.length := by rw [← bl_length, hYb]
  have hne : (Y.toList == []) = false := by rw [eq_bl, hYb, decide_eq_false_iff_not]; exact hy
  have hnn : Y.toList.isEmpty = false := by
    rw [ByteArray.toList_eq]
    cases hh : Y.data.toList with
    | nil => exact absurd (hYb.symm.trans hh) hy
    | cons _ _ => rfl
  rw [← hYd] at k1
  have kr := fun w => readX_any body w
  have hbb := big_body body
  obtain ⟨X1, nb, hX1⟩ : ∃ (X1 : RS) (nb : Nat), bigR ⟨body, 0, 0, 0, 0⟩ 1 = (X1, nb) := ⟨_, _, rfl⟩
  have kb := fun w r h => inx_big w r ⟨body, 0, 0, 0, 0⟩ 1 h ⟨Nat.zero_le _, by show body.size ≤ _; omega, Nat.zero_le _⟩ (by decide)
  rw [hX1] at kb hbb
  have h1c : ((1 : Nat) : Int) = 1 := rfl
  simp only [h1c] at kb
  clear h1c
  have kf := fun w r h => inx_fault w r X1 h
  have kbad := fun w => bad_any X1.e X1.a w
  have hnb : nb < 256 := by
    cases hb : bl body with
    | nil => rw [hb] at hbb; simp only [Prod.mk.injEq] at hbb; omega
    | cons b t => rw [hb] at hbb; simp only [Prod.mk.injEq] at hbb; have := b.toNat_lt; omega
  have km := fun w => fmay_any v nb w hnb
  obtain ⟨W, hW⟩ : ∃ W, W = (w.alloc (.cells #[.int .i64 kd, .int .i64 fb, .bool g, .int .i64 bu] 39)).alloc (.cells #[.int .i64 0, .int .i64 0] 34) := ⟨_, rfl⟩
  have hs1 : (w.alloc (.cells #[.int .i64 kd, .int .i64 fb, .bool g, .int .i64 bu] 39)).heap.size = w.heap.size + 1 := World.size_alloc _ _
  have F : W.heap[w.heap.size + 1]? = some (.cells #[.int .i64 0, .int .i64 0] 34 (0, 0)) := by rw [hW, ← hs1]; exact heap_alloc_new _ _
  have O : W.heap[w.heap.size]? = some (.cells #[.int .i64 kd, .int .i64 fb, .bool g, .int .i64 bu] 39 (0, 0)) := by
    rw [hW]; exact (heap_alloc_old _ _ (by rw [hs1]; omega)).trans (heap_alloc_new _ _)
  have hbW : Below w.heap.size w W := by rw [hW]; exact bal (bal (Below.refl _ _) _) _
  have hWs : W.heap.size = w.heap.size + 2 := by rw [hW, World.size_alloc, hs1]
  have hTW := hT.bel hbW
  have hwn : IntKind.u8.wrap (nb : Int) = nb := by rw [IntKind.wrap_u8]; omega
  have K1 := Lib.hid k1
  have KR := Lib.hid kr
  have KB := Lib.hid kb
  have KF := Lib.hid kf
  have KBAD := Lib.hid kbad
  have KM := Lib.hid km
  have F0 := Lib.hid F
  have O0 := Lib.hid O
  have HBW := Lib.hid hbW
  have HWS := Lib.hid hWs
  have HTW := Lib.hid hTW
  have HBB := Lib.hid hbb
  have HU := Lib.hid hu
  have HYB := Lib.hid hYb
  have HYS := Lib.hid hYs
  have HLT := Lib.hid hlets
  have HLL := Lib.hid hll
  clear k1 kr kb kf kbad km F O hbW hWs hTW hbb hu hYb hYs hlets hll
  have HT : Hid (TW w) := Lib.hid hT
  have hr4 : ∀ r, w.heap.size + 2 ≤ r → 4 ≤ r := fun r h => Nat.le_trans hT.sz (by omega)
  clear hs1 hX1 hy hyl hYd hT
  go_enter Tryz.func15, Tryz.ntmps15
  go_wp2_with fail
  rw [← hW]
  clear hW
  go_wp2_with (first
    | (go_at_call 52; go_loud (with_reducible refine (K1.out _).mono ?_); go_loud (rintro e1 w1 ⟨rfl, hb1⟩); go_loud (have o0 := (live_of (blkB O0.out hb1) 0 _ rfl).1); go_loud (have o1 := (live_of (blkB O0.out hb1) 1 _ rfl).1); go_loud (have o2 := (live_of (blkB O0.out hb1) 2 _ rfl).1); go_loud (have o3 := (live_of (blkB O0.out hb1) 3 _ rfl).1))
    | fail)
  have hz1 := hb1.size
  rw [HWS.out] at hz1
  have hbw1 := HBW.out.trans (hb1.mono HBW.out.size)
  have F1 := blkB F0.out hb1
  go_cut [11] (fun s11 wx => ∃ (H r : Nat), s11 = .pointer (some ⟨H, 0, none⟩) ∧ QS w r H ⟨body, 0, 0, 0, 0⟩ 0 kd fb bu g wx)
  case first =>
    have n0 := World.new_ne _ _ o0
    have n1 := World.new_ne _ _ o1
    have n2 := World.new_ne _ _ o2
    have n3 := World.new_ne _ _ o3
    have KSA : Hid (∀ wz, Below w1.heap.size w1 wz → wz.cell? ⟨w.heap.size, 0, none⟩ = some (.int .i64 kd) ∧ wz.cell? ⟨w.heap.size, 1, none⟩ = some (.int .i64 fb) ∧ wz.cell? ⟨w.heap.size, 2, none⟩ = some (.bool g) ∧ wz.cell? ⟨w.heap.size, 3, none⟩ = some (.int .i64 bu)) := Lib.hid fun wz hb => ⟨kc hb o0, kc hb o1, kc hb o2, kc hb o3⟩
    have hG : w1.heap.size ≤ w1.heap.size := Nat.le_refl _
    go_region_held3 (fun w' => w'.cell? ⟨w.heap.size, 0, none⟩ = some (.int .i64 kd) ∧ w'.cell? ⟨w.heap.size, 1, none⟩ = some (.int .i64 fb) ∧ w'.cell? ⟨w.heap.size, 2, none⟩ = some (.bool g) ∧ w'.cell? ⟨w.heap.size, 3, none⟩ = some (.int .i64 bu))
      (first | (with_reducible refine KSA.out _ ?_; first | exact hbz | exact bal hbz _ | (iterate 6 (refine Below.setCell ?_ (by first | exact hG | exact Nat.le_refl _) _); first | exact hbz | exact bal hbz _)) | go_keep)
      (first
        | (go_at_call 33; go_loud (refine (KR.out _).mono ?_); go_loud (rintro e2 w2 ⟨r, rfl, hr, hi2, hb2⟩); go_loud (have hbz : Below w1.heap.size w1 w2 := by first | exact bt (Below.refl _ _).drew hb2 | exact bt (bal (Below.refl _ _).drew _) hb2 | exact bt (bal (Below.refl _ _) _) hb2); (first
          | (have hzb : w2.heap[w1.heap.size]? = some (.cells #[.pointer none, .int .u8 0, .int .i64 0, .int .i64 0, .bool false, .int .i64 0] 126 (0, 0)) := (hb2.block _ (by simp)).trans (heap_alloc_new _ _); obtain ⟨z0, y0⟩ := live_of hzb 0 _ rfl; obtain ⟨z1, y1⟩ := live_of hzb 1 _ rfl; obtain ⟨z2, y2⟩ := live_of hzb 2 _ rfl; obtain ⟨z3, y3⟩ := live_of hzb 3 _ rfl; obtain ⟨z4, y4⟩ := live_of hzb 4 _ rfl; obtain ⟨z5, y5⟩ := live_of hzb 5 _ rfl; have hrH : w1.heap.size < r := (by have hr' : (w1.alloc (.cells #[.pointer none, .int .u8 0, .int .i64 0, .int .i64 0, .bool false, .int .i64 0] 126)).heap.size ≤ r := hr; rw [World.size_alloc] at hr'; omega))
          | have hG2 : w1.heap.size ≤ w2.heap.size := hbz.size)))
    · go_wp2_with fail
      go_meet
      have hz2 := hbz.size
      have hrl := hi2.lt
      have hr2 : w1.heap.size ≤ r := hr
      exact ⟨w2.heap.size, r, rfl, ⟨bal (bt hbw1 hbz) _, blkB F1 (bal hbz _), heap_alloc_new w2 _, hi2.bel (bal (Below.refl _ _) _), by omega, by omega, by omega⟩⟩
    · go_wp2_with fail
      go_meet
      have hz2 := hbz.size
      have hrl := hi2.lt
      have hne := st6_other w2 w1.heap.size (.pointer (some ⟨r, 0, none⟩)) (.int .u8 0) (.int .i64 kd) (.int .i64 fb) (.bool g) (.int .i64 bu)
      have hbz' := hbw1.trans (hbz.mono hbw1.size)
      exact ⟨w1.heap.size, r, rfl, ⟨(((((hbz'.setCell (by simp only; omega) _).setCell (by simp only; omega) _).setCell (by simp only; omega) _).setCell (by simp only; omega) _).setCell (by simp only; omega) _).setCell (by simp only; omega) _, (hne _ (by omega)).trans (blkB F1 hbz), st6_blk hzb _ _ _ _ _ _, InC.blk hi2 (hne r (by omega)), by omega, by omega, by omega⟩⟩
  case rest =>
    obtain ⟨H, r, rfl, Q⟩ := hcut
    clear hb1 F1 hz1 hbw1 o0 o1 o2 o3 KR O0
    have s0 := (live_of Q.sc 0 _ rfl).1
    have HQ := Lib.hid Q
    clear Q
    by_cases he : X1.e = 0
    · have hd : (!decide (X1.e = 0)) = false := by simpa using he
      rw [hd] at KBAD
      have hX : ∃ b t, bl body = b :: t ∧ X1 = ⟨body, 1, 0, 0, 0⟩ ∧ nb = b.toNat := by
        have h1 := HBB.out
        cases hb : bl body with
        | nil =>
          rw [hb] at h1
          simp only [Prod.mk.injEq] at h1
          exact absurd he (by rw [h1.1]; show ¬ (1 : Int) = 0; decide)
        | cons b t =>
          rw [hb] at h1
          simp only [Prod.mk.injEq] at h1
          exact ⟨b, t, rfl, h1.1, h1.2⟩
      obtain ⟨b, t, hb, hX1, hnb'⟩ := hX
      have hu := HU.out
      rw [hb] at hu
      simp only at hu
      rw [← hnb', ← hX1] at hu
      have hok1 : okR X1 := by rw [hX1]; have := bl_length body; rw [hb] at this; simp only [List.length_cons] at this; exact ⟨by show 1 ≤ body.size; omega, by show body.size ≤ _; omega, Nat.zero_le _⟩
      have hs1 : X1.s = body := by rw [hX1]
      clear hb hX1 hnb' HU HBB hd
      cases hm : mayM v nb with
      | false =>
        rw [hm] at KM hu
        rw [if_pos rfl] at hu
        have HD := Lib.hid hu
        have HX1 := Lib.hid hs1
        have HX2 := Lib.hid hok1
        have HX3 := Lib.hid he
        clear hm hu hs1 hok1 he
        go_wp2_with (first
          | (go_at_call 36; go_loud (with_reducible refine (KB.out _ r HQ.out.rd).mono ?_); go_loud (rintro e2 w2 ⟨rfl, hi2, hg2⟩); go_loud (have Q2 := HQ.out.gr hg2 hi2); go_loud (obtain ⟨s1, s1'⟩ := live_of Q2.sc 1 _ rfl); go_loud (have Q3 := Q2.coded nb); go_loud (have t0 := (live_of Q3.sc 0 _ rfl).1))
          | (go_at_call 38; go_loud (with_reducible refine (KF.out _ r Q3.rd).mono ?_); go_loud (rintro e3 w3 ⟨rfl, hb3⟩); go_loud (have Q4 := Q3.bel hb3))
          | (go_at_call 16; go_loud (refine (KBAD.out _).mono ?_); go_loud (rintro e4 w4 ⟨rfl, hb4⟩); go_loud (have Q5 := (Q4.bel (bal (Below.refl _ _) (.cells #[.int .i64 X1.e, .int .i64 X1.a] 34))).bel hb4); go_loud (have r1 := (live_of Q5.sc 1 _ rfl).1))
          | (go_at_call 54; go_loud (with_reducible refine (KM.out _).mono ?_); go_loud (rintro e5 w5 ⟨rfl, hb5⟩); go_loud (have Q6 := Q5.bel hb5); go_loud (obtain ⟨q0, q0'⟩ := live_of Q6.rt 0 _ rfl); go_loud (obtain ⟨q1, q1'⟩ := live_of Q6.rt 1 _ rfl)))
        refine bodyPost_ret (v := .tuple #[.slice none 0 0, .agg #[.int .i64 1, .int .i64 0]]) (by simp [results, Tryz.results15, go_sem, q0, q1, q0', q1']) rfl ?_
        rw [HD.out]
        exact ⟨(Q6.gg.setCell (by simp) _).setCell (by simp) _, _, rfl, World.ownsRow_nil _ _ _ _⟩
      | true =>
        rw [hm] at KM hu
        rw [if_neg (by decide)] at hu
        have HD := Lib.hid hu
        have HX1 := Lib.hid hs1
        have HX2 := Lib.hid hok1
        have HX3 := Lib.hid he
        clear hm hu hs1 hok1 he
        go_wp2_with (first
          | (go_at_call 36; go_loud (with_reducible refine (KB.out _ r HQ.out.rd).mono ?_); go_loud (rintro e2 w2 ⟨rfl, hi2, hg2⟩); go_loud (have Q2 := HQ.out.gr hg2 hi2); go_loud (obtain ⟨s1, s1'⟩ := live_of Q2.sc 1 _ rfl); go_loud (have Q3 := Q2.coded nb); go_loud (have t0 := (live_of Q3.sc 0 _ rfl).1))
          | (go_at_call 38; go_loud (with_reducible refine (KF.out _ r Q3.rd).mono ?_); go_loud (rintro e3 w3 ⟨rfl, hb3⟩); go_loud (have Q4 := Q3.bel hb3))
          | (go_at_call 16; go_loud (refine (KBAD.out _).mono ?_); go_loud (rintro e4 w4 ⟨rfl, hb4⟩); go_loud (have Q5 := (Q4.bel (bal (Below.refl _ _) (.cells #[.int .i64 X1.e, .int .i64 X1.a] 34))).bel hb4); go_loud (have r1 := (live_of Q5.sc 1 _ rfl).1))
          | (go_at_call 54; go_loud (with_reducible refine (KM.out _).mono ?_); go_loud (rintro e5 w5 ⟨rfl, hb5⟩); go_loud (have Q6 := Q5.bel hb5)))
        obtain ⟨n, hn⟩ : ∃ n, n = Y.size := ⟨_, rfl⟩
        have HNY : Hid (n = y.length) := Lib.hid (hn.trans HYS.out)
        rw [← hn]
        have HN := Lib.hid hn
        have HQ6 := Lib.hid Q6
        have hn4 : n ≤ 4 := by have := HLL.out; have := HNY.out; omega
        have hl6 := Q6.lt
        have hz6 := Q6.hr
        have hw6 := Q6.hH
        clear hn Q6 Q5 Q4 Q3 Q2 hb5 hb4 hb3 r1 t0 s1 s1' s0 KM KBAD KF KB HQ
        go_loopw [13, 50] (fun lv iv wr => ∃ (i : Nat) (x : RS) (acc : List PF), iv = .int .i64 (i : Int) ∧ i ≤ n ∧ Hid (acc.length = i) ∧ Hid (QS w r H x nb kd fb bu g wr) ∧ Hid (okR x ∧ x.s = body ∧ x.e = 0) ∧ Hid (wr.ownsRow w5.heap.size 60 4 lv i (fcells acc)) ∧ Hid (piecesR (RM fb g) nb (y.drop i) x acc = D) ∧ w5.heap.size ≤ wr.heap.size) (fun _ iv _ => n - (intOf iv).toNat)
        case atStart => exact ⟨0, X1, [], rfl, Nat.zero_le _, rfl, HQ6, Lib.hid ⟨HX2.out, HX1.out, HX3.out⟩, Lib.hid (World.ownsRow_nil _ _ _ _), Lib.hid (by rw [List.drop_zero]; exact HD.out.symm), Nat.le_refl _⟩
        case round =>
          obtain ⟨i, x, acc, rfl, hin, HA, HQ, HO, HW, HP, hlr⟩ := hrel
          by_cases hlt : i < n
          · obtain ⟨c, hc⟩ := at_some y i (by have := HNY.out; omega)
            have X : ∀ h, Y[i]'h = c := atB_of Y i c (by rw [HYB.out]; exact hc)
            have kp := fun w hT h => fpiece_any w r x nb kd fb bu g c hT (hr4 r hz6) h HO.out.1 (by rw [HO.out.2.1]; exact hbs) hnb (HLT.out c (List.mem_of_getElem? hc))
            obtain ⟨hok2, hs2⟩ := okR_piece (R := RM fb g) HO.out.1 nb c
            have hP := HP.out
            obtain ⟨hc1, hc2⟩ := List.getElem?_eq_some_iff.1 hc
            rw [List.drop_eq_getElem_cons hc1, hc2, piecesR] at hP
            generalize pieceR (RM fb g) nb x c = Z at *
            obtain ⟨x2, nm, rw', tx, st⟩ := Z
            simp only at kp hok2 hs2 hP
            have kf2 := fun w h => inx_fault w r x2 h
            have kb2 := fun w => bad_any x2.e x2.a w
            have m0 : (0 : Int) ≤ (i : Int) := by omega
            have m1 : (i : Int) < (n : Int) := by omega
            have m2 : (i : Int) < (Y.size : Int) := by have := HN.out; omega
            have HTR : Hid (TW wr) := Lib.hid (HT.out.bel HQ.out.gg)
            have HOK2 : Hid (okR x2 ∧ x2.s = body) := Lib.hid ⟨hok2, hs2.trans HO.out.2.1⟩
            have KP := Lib.hid kp
            have KF2 := Lib.hid kf2
            have KB2 := Lib.hid kb2
            have HP3 := Lib.hid hP
            clear kp kf2 kb2 hP
            clear hc hc1 hc2 hok2 hs2 HP
            obtain ⟨s0, s1, s2, s3, s4, s5⟩ := scF HQ.out.sc
            go_wp2_with fail
            go_cut [15, 50] from 50 to 68 (fun s15 s50 wx => ∃ (G : Nat), s15 = .pointer (some ⟨G, 0, none⟩) ∧ s50 = .int .i64 (i : Int) ∧ wx.heap[G]? = some (.cells #[.string nm, .bool rw', .string tx, .int .i64 st] 60 (0, 0)) ∧ QS w r H x2 nb kd fb bu g wx ∧ wx.ownsRow w5.heap.size 60 4 u13 i (fcells acc) ∧ wr.heap.size ≤ wx.heap.size)
            case first =>
              have n0 := World.new_ne _ _ s0
              have n1 := World.new_ne _ _ s1
              have n2 := World.new_ne _ _ s2
              have n3 := World.new_ne _ _ s3
              have n4 := World.new_ne _ _ s4
              have n5 := World.new_ne _ _ s5
              have hQl := HQ.out.lt
              go_region_held3 (fun w' => w'.cell? ⟨H, 0, none⟩ = some (.pointer (some ⟨r, 0, none⟩)) ∧ w'.cell? ⟨H, 1, none⟩ = some (.int .u8 nb) ∧ w'.cell? ⟨H, 2, none⟩ = some (.int .i64 kd) ∧ w'.cell? ⟨H, 3, none⟩ = some (.int .i64 fb) ∧ w'.cell? ⟨H, 4, none⟩ = some (.bool g) ∧ w'.cell? ⟨H, 5, none⟩ = some (.int .i64 bu))
                (first | with_reducible exact scF HQ.out.sc | with_reducible exact scF (blkB HQ.out.sc (Below.refl _ _).drew) | with_reducible exact scF (blkB HQ.out.sc (bal (Below.refl _ _) _)) | with_reducible exact scF (blkB HQ.out.sc (bal (Below.refl _ _) _).drew) | with_reducible exact scF (blkB HQ.out.sc (bal (Below.refl _ _).drew _)) | with_reducible exact scF Q7.sc | with_reducible exact scF (blkB Q7.sc (bal (Below.refl _ _) _)) | with_reducible exact scF ((set_other _ _ _ _ _ (by omega)).trans ((set_other _ _ _ _ _ (by omega)).trans ((set_other _ _ _ _ _ (by omega)).trans ((set_other _ _ _ _ _ (by omega)).trans Q7.sc)))))
                (first
                  | (go_at_call 55; go_loud (refine (KP.out _ ?_ ?_).mono ?_); go_loud (with_reducible first | exact HTR.out | exact HTR.out.drew | exact HTR.out.bel (bal (Below.refl _ _) _) | exact (HTR.out.bel (bal (Below.refl _ _) _)).drew | exact HTR.out.drew.bel (bal (Below.refl _ _) _)); go_loud (with_reducible first | exact HQ.out.rd | exact HQ.out.rd.bel (Below.refl _ _).drew | exact HQ.out.rd.bel (bal (Below.refl _ _) _) | exact HQ.out.rd.bel (bal (Below.refl _ _) _).drew | exact HQ.out.rd.bel (bal (Below.refl _ _).drew _)); go_loud (rintro e7 w7 ⟨rfl, i7, hg7'⟩); go_loud (have hg7 : wr.grownBy w7 (some r) := by with_reducible first | exact hg7' | exact gr_trans (gr_below (Below.refl _ _).drew) hg7' | exact gr_trans (gr_below (bal (Below.refl _ _) _)) hg7' | exact gr_trans (gr_below (bal (Below.refl _ _) _).drew) hg7' | exact gr_trans (gr_below (bal (Below.refl _ _).drew _)) hg7'); go_loud (have Q7 := HQ.out.gr hg7 i7); (first
                      | (have hzb : w7.heap[wr.heap.size]? = some (.cells #[.string ⟨#[]⟩, .bool false, .string ⟨#[]⟩, .int .i64 0] 60 (0, 0)) := (hg7'.block _ (by simp) (by simp; omega)).trans (heap_alloc_new _ _); obtain ⟨z0, y0, z1, y1, z2, y2, z3, y3⟩ := ptF hzb)
                      | have hG2 : wr.heap.size ≤ w7.heap.size := hg7.size)))
              all_goals have W7 := orow_other HW.out (fun q hq => hg7.block q (orow_blk HW.out q hq).2 (by have := (orow_blk HW.out q hq).1; simp; omega))
              · go_wp2_with fail
                go_meet
                exact ⟨w7.heap.size, rfl, rfl, heap_alloc_new w7 _, Q7.bel (bal (Below.refl _ _) _), orow_bel W7 (bal (Below.refl _ _) _), by rw [World.size_alloc]; have := hg7.size; omega⟩
              all_goals
                go_wp2_with fail
                go_meet
                have hne := st4_other w7 wr.heap.size (.string nm) (.bool rw') (.string tx) (.int .i64 st)
                have hQ3 := HQ.out.hH
                have hQ4 := HQ.out.hr
                exact ⟨wr.heap.size, rfl, rfl, st4_blk hzb _ _ _ _, Q7.other hne ((((Q7.gg.setCell (by simp only; omega) _).setCell (by simp only; omega) _).setCell (by simp only; omega) _).setCell (by simp only; omega) _) (by omega) (by omega) (by omega), orow_other W7 (fun q hq => hne q (by have := (orow_blk HW.out q hq).2; omega)), by simp only [World.size_setCell]; exact hg7.size⟩
            case rest =>
              obtain ⟨G, rfl, rfl, hp, Q8, W8, hl8⟩ := hcut
              have i8 := Q8.rd
              have t0 := (live_of Q8.sc 0 _ rfl).1
              have HPB := Lib.hid hp
              have HQ8 := Lib.hid Q8
              have HW8 := Lib.hid W8
              clear hp Q8 W8
              clear s0 s1 s2 s3 s4 s5 KP HTR X m0 m2
              by_cases he2 : x2.e = 0
              · have hd2 : (!decide (x2.e = 0)) = false := by simpa using he2
                rw [hd2] at KB2
                have hP4 := HP3.out
                rw [if_neg (by simpa using he2)] at hP4
                have HP4 := Lib.hid hP4
                have HE2 := Lib.hid he2
                clear hP4 HP3 he2 hd2
                go_wp2_with (first
                  | (go_at_call 38; go_loud (with_reducible refine (KF2.out _ i8).mono ?_); go_loud (rintro e9 w9 ⟨rfl, hb9⟩); go_loud (have hb9a := bal hb9 (.cells #[.int .i64 x2.e, .int .i64 x2.a] 34)))
                  | (go_at_call 16; go_loud (refine (KB2.out _).mono ?_); go_loud (rintro e10 w10 ⟨rfl, hb10⟩); go_loud (have hb8 := bt hb9a hb10); go_loud (have Q10 := HQ8.out.bel hb8); go_loud (have W10 := orow_bel HW8.out hb8); go_loud (obtain ⟨p0, _, p1, _, p2, _, p3, _⟩ := ptF (blkB HPB.out hb8)); go_loud (have hz10 : w5.heap.size ≤ w10.heap.size := by have := hb8.size; omega))
                  | (at_builtin; go_loud (refine wpList_push1 rfl _ _ 54 60 rfl Tryz.underlying54 (.agg #[.string ⟨#[]⟩, .bool false, .string ⟨#[]⟩, .int .i64 0]) 4 48 infoPart rfl (by decide) w10 w5.heap.size u13 i (fcells acc) rfl W10 #[.string nm, .bool rw', .string tx, .int .i64 st] rfl (by simp [Value.oneCell']) rfl (by omega) (by omega) hz10 ?_); go_loud (intro v' w11 hown11 hb11 hk11)))
                have Q11 := Q10.push hb11 hl6.1 hl6.2 (by omega)
                have hl11 := hb11.size
                go_roundw
                case rel => exact ⟨i + 1, x2, acc ++ [⟨nm, rw', tx, st⟩], by go_num, by omega, Lib.hid (by rw [List.length_append, HA.out]; rfl), Lib.hid Q11, Lib.hid ⟨HOK2.out.1, HOK2.out.2, HE2.out⟩, Lib.hid (by rw [fcells_snoc]; exact hown11), HP4, by omega⟩
                case measure => simp [intOf]; omega
              · have hd2 : (!decide (x2.e = 0)) = true := by simpa using he2
                rw [hd2] at KB2
                have hP4 := HP3.out
                rw [if_pos he2] at hP4
                have HP4 := Lib.hid hP4
                clear hP4 HP3 he2 hd2
                go_wp2_with (first
                  | (go_at_call 38; go_loud (with_reducible refine (KF2.out _ i8).mono ?_); go_loud (rintro e9 w9 ⟨rfl, hb9⟩); go_loud (have hb9a := bal hb9 (.cells #[.int .i64 x2.e, .int .i64 x2.a] 34)))
                  | (go_at_call 16; go_loud (refine (KB2.out _).mono ?_); go_loud (rintro e10 w10 ⟨rfl, hb10⟩); go_loud (have hb8 := bt hb9a hb10); go_loud (have Q10 := HQ8.out.bel hb8); go_loud (obtain ⟨q0, q0'⟩ := live_of Q10.rt 0 _ rfl); go_loud (obtain ⟨q1, q1'⟩ := live_of Q10.rt 1 _ rfl); go_loud (have f0 := ((Live.fresh w9 #[.int .i64 x2.e, .int .i64 x2.a] 34 0 _ rfl).keep hb10).1); go_loud (have f1 := ((Live.fresh w9 #[.int .i64 x2.e, .int .i64 x2.a] 34 1 _ rfl).keep hb10).1)))
                go_region
                all_goals
                  go_wp2_with fail
                  refine bodyPost_ret (v := .tuple #[.slice none 0 0, .agg #[.int .i64 x2.e, .int .i64 x2.a]]) (by simp [results, Tryz.results15, go_sem, q0, q1, q0', q1']) rfl ?_
                  rw [← HP4.out]
                  exact ⟨((bdn Q10.gg _).setCell (by simp) _).setCell (by simp) _, _, rfl, World.ownsRow_nil _ _ _ _⟩
          · have m1 : ¬ (i : Int) < (n : Int) := by omega
            have hP : D = (acc, 0, 0) := by
              rw [← HP.out, List.drop_of_length_le (by have := HNY.out; omega)]
              rfl
            have HP2 := Lib.hid hP
            clear hP HP
            obtain ⟨q0, q0'⟩ := live_of HQ.out.rt 0 _ rfl
            obtain ⟨q1, q1'⟩ := live_of HQ.out.rt 1 _ rfl
            go_wp2_with fail
            refine bodyPost_ret (v := .tuple #[u13, .agg #[.int .i64 0, .int .i64 0]]) (by simp [results, Tryz.results15, go_sem, q0, q1, q0', q1']) rfl ?_
            rw [HP2.out]
            have ho := HW.out
            refine ⟨(HQ.out.gg.setCell (by simp) _).setCell (by simp) _, _, rfl, ?_⟩
            simp only
            rw [HA.out]
            exact orow_mono (orow_other ho fun k hk => (set_other _ _ _ _ k (by have := (orow_blk ho k hk).1; omega)).trans (set_other _ _ _ _ k (by have := (orow_blk ho k hk).1; omega))) (by omega)
    · have hd : (!decide (X1.e = 0)) = true := by simpa using he
      rw [hd] at KBAD
      have hX : X1.e = 1 ∧ X1.a = 0 ∧ D = ([], 1, 0) := by
        have h1 := HBB.out
        have h2 := HU.out
        cases hb : bl body with
        | nil =>
          rw [hb] at h1 h2
          simp only [Prod.mk.injEq] at h1 h2
          exact ⟨by rw [h1.1], by rw [h1.1], h2⟩
        | cons b t =>
          rw [hb] at h1
          simp only [Prod.mk.injEq] at h1
          exact absurd (by rw [h1.1]) he
      obtain ⟨x1, x2, hDD⟩ := hX
      have HD : Hid (D = ([], 1, 0)) := hDD
      rw [x1, x2] at KBAD
      clear hd he hDD HU HBB KM
      go_wp2_with (first
        | (go_at_call 36; go_loud (with_reducible refine (KB.out _ r HQ.out.rd).mono ?_); go_loud (rintro e2 w2 ⟨rfl, hi2, hg2⟩); go_loud (have Q2 := HQ.out.gr hg2 hi2); go_loud (obtain ⟨s1, s1'⟩ := live_of Q2.sc 1 _ rfl); go_loud (have Q3 := Q2.coded nb); go_loud (have t0 := (live_of Q3.sc 0 _ rfl).1))
        | (go_at_call 38; go_loud (with_reducible refine (KF.out _ r Q3.rd).mono ?_); go_loud (rintro e3 w3 ⟨rfl, hb3⟩); go_loud (have Q4 := Q3.bel hb3))
        | (go_at_call 16; go_loud (refine (KBAD.out _).mono ?_); go_loud (rintro e4 w4 ⟨rfl, hb4⟩); go_loud (have Q5 := (Q4.bel (bal (Below.refl _ _) (.cells #[.int .i64 1, .int .i64 0] 34))).bel hb4); go_loud (obtain ⟨q0, q0'⟩ := live_of Q5.rt 0 _ rfl); go_loud (obtain ⟨q1, q1'⟩ := live_of Q5.rt 1 _ rfl); go_loud (obtain ⟨f0, _⟩ := (Live.fresh w3 #[.int .i64 1, .int .i64 0] 34 0 _ rfl).keep hb4); go_loud (obtain ⟨f1, _⟩ := (Live.fresh w3 #[.int .i64 1, .int .i64 0] 34 1 _ rfl).keep hb4)))
      go_region
      all_goals
        go_wp2_with fail
        refine bodyPost_ret (v := .tuple #[.slice none 0 0, .agg #[.int .i64 1, .int .i64 0]]) (by simp [results, Tryz.results15, go_sem, q0, q1, q0', q1']) rfl ?_
        rw [HD.out]
        exact ⟨((bdn Q5.gg _).setCell (by simp) _).setCell (by simp) _, _, rfl, World.ownsRow_nil _ _ _ _⟩
end Go.Proofs.YtmfjmgjhfplijaaGreatDoor

