/- Walks: the law's awake (layers 3 and 14). -/
import Derived.Test.YtmfjmgjhfplijaaGreatDoorEd
import Derived.Deep.CutRange
import Derived.Deep.RegionHeld3
import Derived.Test.YtmfjmgjhfplijaaGreatDoorEc
import Derived.Test.YtmfjmgjhfplijaaGreatDoorEb
import Derived.Test.YtmfjmgjhfplijaaGreatDoorEa
import Derived.Test.YtmfjmgjhfplijaaGreatDoorMCi
import Derived.Test.YtmfjmgjhfplijaaGreatDoorMSk
import Derived.Test.YtmfjmgjhfplijaaGreatDoorMZA
import Derived.Test.YtmfjmgjhfplijaaGreatDoorMPo
import Derived.Test.YtmfjmgjhfplijaaGreatDoorMOx
import Derived.Test.YtmfjmgjhfplijaaGreatDoorMBj
import Derived.Test.YtmfjmgjhfplijaaGreatDoorMPu
import Derived.Test.YtmfjmgjhfplijaaGreatDoorMCk
import Derived.Test.YtmfjmgjhfplijaaGreatDoorMRx
import Derived.Test.YtmfjmgjhfplijaaGreatDoorMTm
import Derived.Test.YtmfjmgjhfplijaaGreatDoorMCp
import Derived.Test.YtmfjmgjhfplijaaGreatDoorMFb
import Derived.Test.YtmfjmgjhfplijaaGreatDoorMCy
import Derived.Test.YtmfjmgjhfplijaaGreatDoorMTv
import Derived.Test.YtmfjmgjhfplijaaGreatDoorMFy
import Derived.Test.YtmfjmgjhfplijaaGreatDoorMAy
import Derived.Test.YtmfjmgjhfplijaaGreatDoorEe
import Derived.Test.YtmfjmgjhfplijaaGreatDoorMBi
namespace Go.Proofs.YtmfjmgjhfplijaaGreatDoor
open Go.RowKit
set_option linter.unusedVariables false
set_option linter.unusedSimpArgs false

/-- field.Parse, whatever the frame. -/
theorem fparse_fld (v : Int) (id body : ByteArray) (kd fb bu : Int) (g : Bool) (w : World) (hT : TW w) (hi : id.size ≤ 1073741824) (hbs : body.size ≤ 1048576) :
    Calls Tryz.prog 15 #[.int .i64 v, .string id, .string body, .agg #[.int .i64 kd, .int .i64 fb, .bool g, .int .i64 bu]] w (FieldPost (fparF (RM fb g) v (layM v (bl id)) body) w) := by
  by_cases hy : layM v (bl id) = []
  · exact fparse_none v id body kd fb bu g w hi hy
  · exact fparse_main v id body kd fb bu g w hT hi hbs hy
theorem fprint_fld (v : Int) (id : ByteArray) (l : List PF) (rv : Value) (w : World) (hT : TW w) (hrow : Row w rv l.length (fcells l)) (hg : goodL (layR (layM v (bl id))) l) (hs : ∀ p ∈ l, p.text.size ≤ 1073741824) (hi : id.size ≤ 1073741824) :
    Calls Tryz.prog 17 #[.int .i64 v, .string id, rv] w fun e w' => e = .returned (.tuple #[.string ⟨(fprF (decide (v = 4)) (layM v (bl id)) l).toArray⟩, .agg #[.int .i64 0, .int .i64 0]]) ∧ Below w.heap.size w w' := by
  by_cases hy : layM v (bl id) = []
  · exact fprint_none v id l rv w hT hrow hg hs hi hy
  · exact fprint_some v id l rv w hT hrow hg hs hi hy
/-- the document's example, layer 3. -/
theorem ex3a : unitsT [97] = [255, 254, 97, 0] := by decide +kernel
theorem ex3b : mdF [254, 255, 216, 61, 222, 0] = ([240, 159, 152, 128], 0, 0) := by decide +kernel
theorem ex3c : decT (tokW true) [216, 0, 0, 65] = ([], some 0) := by decide +kernel
set_option maxHeartbeats 1000000 in
theorem awake03_any (w : World) (hT : TW w) : Calls Tryz.prog 99 #[] w fun e w' => e = .returned (.bool true) ∧ Below w.heap.size w w' := by
  have k1 : ∀ w, TW w → Calls Tryz.prog 58 #[.string ⟨#[97]⟩] w fun e w' => e = .returned (.tuple #[.string ⟨#[255, 254, 97, 0]⟩, .agg #[.int .i64 0, .int .i64 0]]) ∧ Below w.heap.size w w' := by
    intro w hT
    have := withmark_any ⟨#[97]⟩ w hT (by decide) (by decide)
    rw [show bl ⟨#[97]⟩ = [97] from rfl, ex3a] at this
    exact this
  have k2 : ∀ w, Calls Tryz.prog 141 #[.string ⟨#[254, 255, 216, 61, 222, 0]⟩] w fun e w' => e = .returned (.tuple #[.string ⟨#[240, 159, 152, 128]⟩, .agg #[.int .i64 0, .int .i64 0]]) ∧ Below w.heap.size w w' := by
    intro w
    have := marked_any ⟨#[254, 255, 216, 61, 222, 0]⟩ w (by decide)
    rw [show bl ⟨#[254, 255, 216, 61, 222, 0]⟩ = [254, 255, 216, 61, 222, 0] from rfl, ex3b] at this
    exact this
  have k3 : ∀ w, Calls Tryz.prog 142 #[.string ⟨#[216, 0, 0, 65]⟩, .bool true] w fun e w' => e = .returned (.tuple #[.string ⟨#[]⟩, .agg #[.int .i64 2, .int .i64 0]]) ∧ Below w.heap.size w w' := by
    intro w
    have := wdecode_any ⟨#[216, 0, 0, 65]⟩ true w (by decide)
    rw [show bl ⟨#[216, 0, 0, 65]⟩ = [216, 0, 0, 65] from rfl, ex3c] at this
    exact this
  have k4 := fun w hT => awake02_any w hT
  have k5 := fun w => bad_any 0 0 w
  have k6 := eqFault 2 0 2 0
  have k7 := fun op x y w => guardFault op x y #[.int .i64 2, .int .i64 0] #[.int .i64 2, .int .i64 0] w
  have hbk := Below.refl w.heap.size w
  have K1 := Lib.hid k1
  have K2 := Lib.hid k2
  have K3 := Lib.hid k3
  have K4 := Lib.hid k4
  have K5 := Lib.hid k5
  have HT := Lib.hid hT
  clear k1 k2 k3 k4 k5 hT
  go_enter Tryz.func99, Tryz.ntmps99
  go_wp2_with (first
    | (go_at_call 58; go_loud (with_reducible refine (K1.out _ HT.out).mono ?_); go_loud (rintro e w1 ⟨rfl, hb1⟩); go_loud (replace hbk := bal (bt hbk hb1) (.cells #[.int .i64 0, .int .i64 0] 34)); go_loud (have A1 := heap_alloc_new w1 (.cells #[.int .i64 0, .int .i64 0] 34)))
    | (go_at_call 141; go_loud (with_reducible refine (K2.out _).mono ?_); go_loud (rintro e w2 ⟨rfl, hb2⟩); go_loud (replace hbk := bal (bt hbk hb2) (.cells #[.int .i64 0, .int .i64 0] 34)); go_loud (have A2 := heap_alloc_new w2 (.cells #[.int .i64 0, .int .i64 0] 34)); go_loud (replace A1 := blkB A1 (bal hb2 (.cells #[.int .i64 0, .int .i64 0] 34))))
    | (go_at_call 142; go_loud (with_reducible refine (K3.out _).mono ?_); go_loud (rintro e w3 ⟨rfl, hb3⟩); go_loud (replace hbk := bal (bt hbk hb3) (.cells #[.int .i64 2, .int .i64 0] 34)); go_loud (have A3 := heap_alloc_new w3 (.cells #[.int .i64 2, .int .i64 0] 34)); go_loud (replace A1 := blkB A1 (bal hb3 (.cells #[.int .i64 2, .int .i64 0] 34))); go_loud (replace A2 := blkB A2 (bal hb3 (.cells #[.int .i64 2, .int .i64 0] 34))))
    | (go_at_call 143; go_loud (with_reducible refine (K4.out _ (HT.out.bel hbk)).mono ?_); go_loud (rintro e w4 ⟨rfl, hb4⟩); go_loud (replace hbk := bt hbk hb4); go_loud (replace A1 := blkB A1 hb4); go_loud (replace A2 := blkB A2 hb4); go_loud (replace A3 := blkB A3 hb4); go_loud (have a0 := (live_of A1 0 _ rfl).1); go_loud (have a1 := (live_of A1 1 _ rfl).1))
    | (go_at_call 16; go_loud (refine (K5.out _).mono ?_); go_loud (rintro e w5 ⟨rfl, hb5⟩); go_loud (replace hbk := bt hbk hb5); go_loud (replace A2 := blkB A2 hb5); go_loud (replace A3 := blkB A3 hb5); go_loud (have b0 := (live_of A2 0 _ rfl).1); go_loud (have b1 := (live_of A2 1 _ rfl).1); go_loud (have c0 := (live_of A3 0 _ rfl).1); go_loud (have c1 := (live_of A3 1 _ rfl).1)))
  go_ret
  exact ⟨rfl, hbk⟩
theorem words_0 (R : List UInt8 → Int) (x : RS) (t : List UInt8) (a : Int) (hv : (scanL t).2 = none) (hR : R t = 7) : wordsR R 0 x ⟨t.toArray⟩ a = (x, ⟨t.toArray⟩, 7) := by
  have e : wdF R 0 t = (7, t, 0, 0) := by
    unfold wdF dcF
    rw [if_pos rfl, hR, if_pos (by decide), tokC_u, decT_U]
    unfold decU
    rw [hv]
  unfold wordsR
  show (if (wdF R 0 t).2.2.1 = 0 then _ else _) = _
  rw [if_pos (by rw [e])]
  show (x, (⟨(wdF R 0 t).2.1.toArray⟩ : ByteArray), (wdF R 0 t).1) = _
  rw [e]
/-- the document's example, layer 14. -/
theorem ex14 : fparF (RM 0 false) 3 (layM 3 [84, 73, 84, 50]) ⟨#[0, 97]⟩ = ([⟨nameF 116, false, ⟨#[97]⟩, 7⟩], 0, 0) := by
  have hl : layM 3 [84, 73, 84, 50] = [116] := by decide
  have hR : RM 0 false [97] = 7 := RM_utf 0 false [97] (by decide)
  have hq : Rest (⟨⟨#[0, 97]⟩, 1, 0, 0, 0⟩ : RS) [97] := ⟨rfl, by decide, rfl⟩
  have hp : pieceR (RM 0 false) 0 ⟨⟨#[0, 97]⟩, 1, 0, 0, 0⟩ 116 = (⟨⟨#[0, 97]⟩, 2, 0, 0, 0⟩, ⟨nameF 116, false, ⟨#[97]⟩, 7⟩) := by
    have hr : rawR 0 ⟨⟨#[0, 97]⟩, 1, 0, 0, 0⟩ 116 = (⟨⟨#[0, 97]⟩, 2, 0, 0, 0⟩, ⟨([97] : List UInt8).toArray⟩) := by
      unfold rawR
      rw [if_neg (by decide), if_neg (by decide), if_neg (by decide), if_neg (by decide), hq.all.2]
      rfl
    unfold pieceR
    rw [if_pos (show isT 116 = true from rfl), hr]
    simp only
    rw [words_0 _ _ _ _ (by decide) hR]
  rw [hl]
  unfold fparF
  rw [if_neg (by decide)]
  show (if mayM 3 (0 : UInt8).toNat = false then _ else piecesR (RM 0 false) (0 : UInt8).toNat [116] ⟨⟨#[0, 97]⟩, 1, 0, 0, 0⟩ []) = _
  rw [if_neg (by decide), piecesR]
  show (if (pieceR (RM 0 false) 0 ⟨⟨#[0, 97]⟩, 1, 0, 0, 0⟩ 116).1.e ≠ 0 then _ else piecesR (RM 0 false) 0 [] (pieceR (RM 0 false) 0 ⟨⟨#[0, 97]⟩, 1, 0, 0, 0⟩ 116).1 ([] ++ [(pieceR (RM 0 false) 0 ⟨⟨#[0, 97]⟩, 1, 0, 0, 0⟩ 116).2])) = _
  rw [hp]
  rfl
theorem ex14p : fprF (decide ((3 : Int) = 4)) (layM 3 [84, 73, 84, 50]) [⟨nameF 116, false, ⟨#[97]⟩, 7⟩] = [1, 255, 254, 97, 0] := by decide +kernel
theorem ex14g : goodL (layR (layM 3 [84, 73, 84, 50])) [⟨nameF 116, false, ⟨#[97]⟩, 7⟩] := by
  have hl : layR (layM 3 [84, 73, 84, 50]) = [116] := by decide
  rw [hl]
  exact ⟨⟨rfl, rfl, fun h => absurd h (by decide), fun h => absurd h (by decide), fun h => absurd h (by decide), fun _ => by decide⟩, trivial⟩
theorem eqPart0 (a : ByteArray) (b : Bool) (c : ByteArray) (d : Int) (w : World) : (Op.equalIn 10000 60 (.agg #[.string a, .bool b, .string c, .int .i64 d]) (.agg #[.string a, .bool b, .string c, .int .i64 d])).run Tryz.prog w = .ok true w := by
  have hS : Tryz.prog.underlying 60 = some (.struct (Tryz.prog.fieldsOf 60)) := by kernel_rfl
  have hp : Tryz.prog.stoodInHeld 60 = false := by kernel_rfl
  rw [show (10000 : Nat) = 9999 + 1 from rfl, run_equalIn_agg w 9999 60 _ _ hS hp]
  simp only [Program.fieldsOf, Tryz.underlying60]
  simp [go_sem, Op.eqFields]
theorem eqPart (a : ByteArray) (b : Bool) (c : ByteArray) (d : Int) (w : World) : (binOp .eql 60 (.agg #[.string a, .bool b, .string c, .int .i64 d]) (.agg #[.string a, .bool b, .string c, .int .i64 d])).run Tryz.prog w = .ok (.bool true) w := by
  rw [run_eql_struct, eqPart0]; rfl
theorem guardPart (op : BinOp) (x y : Operand) (xs ys : Array Value) (w : World) : (eqGuard op 60 x y (.agg xs) (.agg ys)).run Tryz.prog w = .ok () w := run_eqGuard_agg w op 60 x y xs ys (by kernel_rfl)
/-- Parse's answer, its row for reading. -/
theorem parse_row {D : List PF × Int × Int} {w w' : World} {e : Ending} (h : FieldPost D w e w') : Below w.heap.size w w' ∧ ∃ a cap, e = .returned (.tuple #[.slice a D.1.length cap, .agg #[.int .i64 D.2.1, .int .i64 D.2.2]]) ∧ Row w' (.slice a D.1.length cap) D.1.length (fcells D.1) := by
  obtain ⟨hb, v, he, ho⟩ := h
  obtain ⟨a, c, rfl⟩ := orow_form ho
  exact ⟨hb, a, c, he, row_owns ho⟩
set_option maxHeartbeats 1000000 in
theorem awake14_any (w : World) (hT : TW w) : Calls Tryz.prog 51 #[] w fun e w' => e = .returned (.bool true) ∧ Below w.heap.size w w' := by
  have hnm : nameF 116 = ⟨#[116, 101, 120, 116]⟩ := rfl
  have k1 : ∀ w, TW w → Calls Tryz.prog 15 #[.int .i64 3, .string ⟨#[84, 73, 84, 50]⟩, .string ⟨#[0, 97]⟩, .agg #[.int .i64 0, .int .i64 0, .bool false, .int .i64 0]] w fun e w' => Below w.heap.size w w' ∧ ∃ a cap, e = .returned (.tuple #[.slice a 1 cap, .agg #[.int .i64 0, .int .i64 0]]) ∧ Row w' (.slice a 1 cap) 1 (fcells [⟨nameF 116, false, ⟨#[97]⟩, 7⟩]) := by
    intro w hT
    have := (fparse_fld 3 ⟨#[84, 73, 84, 50]⟩ ⟨#[0, 97]⟩ 0 0 0 false w hT (by decide) (by decide)).mono fun e w' h => parse_row h
    rw [show bl ⟨#[84, 73, 84, 50]⟩ = [84, 73, 84, 50] from rfl, ex14] at this
    exact this
  have k2 : ∀ rv w, TW w → Row w rv 1 (fcells [⟨nameF 116, false, ⟨#[97]⟩, 7⟩]) → Calls Tryz.prog 17 #[.int .i64 3, .string ⟨#[84, 73, 84, 50]⟩, rv] w fun e w' => e = .returned (.tuple #[.string ⟨#[1, 255, 254, 97, 0]⟩, .agg #[.int .i64 0, .int .i64 0]]) ∧ Below w.heap.size w w' := by
    intro rv w hT hrow
    have := fprint_fld 3 ⟨#[84, 73, 84, 50]⟩ [⟨nameF 116, false, ⟨#[97]⟩, 7⟩] rv w hT hrow ex14g (by intro p hp; simp at hp; subst hp; decide) (by decide)
    rw [show bl ⟨#[84, 73, 84, 50]⟩ = [84, 73, 84, 50] from rfl, ex14p] at this
    exact this
  rw [hnm] at k1 k2
  clear hnm
  have k3 := fun w hT => awake03_any w hT
  have k4 := fun w hT => awake10_any w hT
  have k5 := fun w => bad_any 0 0 w
  have k6 := fun w => eqPart ⟨#[116, 101, 120, 116]⟩ false ⟨#[97]⟩ 7 w
  have k7 := fun op x y w => guardPart op x y #[.string ⟨#[116, 101, 120, 116]⟩, .bool false, .string ⟨#[97]⟩, .int .i64 7] #[.string ⟨#[116, 101, 120, 116]⟩, .bool false, .string ⟨#[97]⟩, .int .i64 7] w
  have hbk := Below.refl w.heap.size w
  have K1 := Lib.hid k1
  have K2 := Lib.hid k2
  have K3 := Lib.hid k3
  have K4 := Lib.hid k4
  have K5 := Lib.hid k5
  have HT := Lib.hid hT
  clear k1 k2 k3 k4 k5 hT
  go_enter Tryz.func51, Tryz.ntmps51
  go_wp2_with (first
    | (go_at_call 15; go_loud (refine (K1.out _ HT.out).mono ?_); go_loud (rintro e w1 ⟨hb1, a, cap, rfl, hrow⟩); go_loud (replace hbk := bal (bt hbk hb1) (.cells #[.int .i64 0, .int .i64 0] 34)); go_loud (have A1 := heap_alloc_new w1 (.cells #[.int .i64 0, .int .i64 0] 34)); go_loud (have hrowA := hrow.keep (bal (Below.refl _ _) (.cells #[.int .i64 0, .int .i64 0] 34))); go_loud (obtain ⟨av, cap', hsl, hc⟩ := hrow); go_loud (obtain ⟨rfl, rfl⟩ : a = av ∧ cap = cap' := by simpa using hsl); go_loud (clear hsl); go_loud (obtain ⟨gg, oo, rfl, d0, d1, d2, d3⟩ := pt_at hc 0 _ rfl); go_loud (simp only [Nat.zero_mul, Nat.add_zero] at d0 d1 d2 d3); go_loud (replace d0 := kc (bal (Below.refl _ _) (.cells #[.int .i64 0, .int .i64 0] 34)) d0); go_loud (replace d1 := kc (bal (Below.refl _ _) (.cells #[.int .i64 0, .int .i64 0] 34)) d1); go_loud (replace d2 := kc (bal (Below.refl _ _) (.cells #[.int .i64 0, .int .i64 0] 34)) d2); go_loud (replace d3 := kc (bal (Below.refl _ _) (.cells #[.int .i64 0, .int .i64 0] 34)) d3))
    | (go_at_call 17; go_loud (refine (K2.out _ _ (HT.out.bel hbk) hrowA).mono ?_); go_loud (rintro e w2 ⟨rfl, hb2⟩); go_loud (have hb2a := bal hb2 (.cells #[.int .i64 0, .int .i64 0] 34)); go_loud (replace hbk := bt hbk hb2a); go_loud (have A2 := heap_alloc_new w2 (.cells #[.int .i64 0, .int .i64 0] 34)); go_loud (replace A1 := blkB A1 hb2a); go_loud (replace d0 := kc hb2a d0); go_loud (replace d1 := kc hb2a d1); go_loud (replace d2 := kc hb2a d2); go_loud (replace d3 := kc hb2a d3))
    | (go_at_call 99; go_loud (with_reducible refine (K3.out _ (HT.out.bel hbk)).mono ?_); go_loud (rintro e w3 ⟨rfl, hb3⟩); go_loud (replace hbk := bt hbk hb3); go_loud (replace A1 := blkB A1 hb3); go_loud (replace A2 := blkB A2 hb3); go_loud (replace d0 := kc hb3 d0); go_loud (replace d1 := kc hb3 d1); go_loud (replace d2 := kc hb3 d2); go_loud (replace d3 := kc hb3 d3))
    | (go_at_call 100; go_loud (with_reducible refine (K4.out _ (HT.out.bel hbk)).mono ?_); go_loud (rintro e w4 ⟨rfl, hb4⟩); go_loud (replace hbk := bt hbk hb4); go_loud (replace A1 := blkB A1 hb4); go_loud (replace A2 := blkB A2 hb4); go_loud (replace d0 := kc hb4 d0); go_loud (replace d1 := kc hb4 d1); go_loud (replace d2 := kc hb4 d2); go_loud (replace d3 := kc hb4 d3); go_loud (have a0 := (live_of A1 0 _ rfl).1); go_loud (have a1 := (live_of A1 1 _ rfl).1))
    | (go_at_call 16; go_loud (refine (K5.out _).mono ?_); go_loud (rintro e w5 ⟨rfl, hb5⟩); go_loud (replace hbk := bt hbk hb5); go_loud (replace A2 := blkB A2 hb5); go_loud (have b0 := (live_of A2 0 _ rfl).1); go_loud (have b1 := (live_of A2 1 _ rfl).1)))
  go_ret
  exact ⟨rfl, hbk⟩
theorem awake14in_any (w : World) (hT : TW w) : Calls Tryz.prog 14 #[] w fun e w' => e = .returned (.bool true) ∧ Below w.heap.size w w' := by
  have KA := Lib.hid awake14_any
  go_enter Tryz.func14, Tryz.ntmps14
  go_wp2_with (go_at_call 51; refine (KA.out _ hT).mono ?_; rintro e w1 ⟨rfl, hb1⟩)
  go_ret
  exact ⟨rfl, hb1⟩
end Go.Proofs.YtmfjmgjhfplijaaGreatDoor

