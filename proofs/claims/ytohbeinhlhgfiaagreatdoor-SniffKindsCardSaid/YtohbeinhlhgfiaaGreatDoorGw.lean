/- Gw: a checked evaluator for calls, and what it shows (part). -/
import Derived.Test.YtohbeinhlhgfiaaGreatDoorMTv
import Derived.Test.YtohbeinhlhgfiaaGreatDoorMMore
import Derived.Test.YtohbeinhlhgfiaaGreatDoorMFr
import Derived.LaidMore
import Derived.Lib.LaidU8T
import Derived.Lib.LaidTab
import Derived.Shelf.Vars
import Derived.ChangeSame
import Derived.Lib.TrailingZeros
import Derived.Test.YtohbeinhlhgfiaaGreatDoorRX
set_option linter.all false
set_option linter.unusedSectionVars false
set_option linter.unusedVariables false
set_option linter.unusedSimpArgs false
/- What the rows of the laws of layers 28 to 31 list gives: the globals that the closed runs read; strings.Index's number. -/
namespace Go.Proofs.YtohbeinhlhgfiaaGreatDoor
open Go Go.Rf Go.RowKit Go.Shelf Go.Lib Go.ChangeShapes Go.WideShapes Go.ChangeAt
set_option linter.unusedVariables false
set_option linter.unusedSimpArgs false

/-- no signs. -/
instance (priority := low) sym0 : Sym := ⟨fun _ => .int .i64 0, fun _ => rfl, fun _ => rfl, fun _ _ h => by cases h⟩
def isU8 (v : Value) (z : Int) : Bool := match v with | .int .u8 n => n == z | _ => false
theorem isU8_eq {v : Value} {z : Int} (h : isU8 v z = true) : v = .int .u8 z := by
  unfold isU8 at h
  split at h
  · rw [eq_of_beq h]
  · cases h
theorem gat_some {r : R16 (R16 Value)} {n off : Nat} {v : Value} (h : gat r n off = some v) : off < n ∧ v = R16.get (lo off) nov (R16.get (hi off) nrow r) := by
  unfold gat at h
  split at h
  · rename_i hb
    cases h
    exact ⟨by simpa using hb, rfl⟩
  · cases h
theorem all_at {p : Nat → Bool} {n : Nat} (h : (List.range n).all p = true) {i : Nat} (hi : i < n) : p i = true := List.all_eq_true.1 h i (List.mem_range.2 hi)
theorem g2_all : ((List.range 256).all fun o => isU8 (R16.get (lo o) nov (R16.get (hi o) nrow g2)) (firstT o : Int)) = true := by kernel_rfl
theorem g3_all : ((List.range 32).all fun o => isU8 (R16.get (lo o) nov (R16.get (hi o) nrow g3)) (match o % 2 with | 0 => (accLo (o / 2) : Int) | _ => (accHi (o / 2) : Int))) = true := by kernel_rfl
theorem g6_all : ((List.range 32).all fun o => isU8 (R16.get (lo o) nov (R16.get (hi o) nrow g6)) ((Go.Lib.deBruijn32tab.getD o 0 : Nat) : Int)) = true := by kernel_rfl

/-- where the known globals stand as they are listed. -/
structure GW (w : World) : Prop where
  gok : GOk w w.heap.size gk
  tw : TW w
theorem cell_in {w : World} {a : Addr} {v : Value} (h : w.cell? a = some v) : a.block < w.heap.size := by
  unfold World.cell? at h
  cases hb : w.heap[a.block]? with
  | none => rw [hb] at h; cases h
  | some b => exact (Array.getElem?_eq_some_iff.1 hb).1
theorem GW.bel {w w' : World} (h : GW w) (hb : Below w.heap.size w w') : GW w' := ⟨h.gok.later hb hb.size, h.tw.bel hb⟩
theorem starts_eq : (Rows.laid_diacritic_sniff_starts : DataW Unit) = .agg [.agg [.lit (.string [73, 68, 51]), .lit (.int .i64 1)], .agg [.lit (.string [79, 103, 103, 83]), .lit (.int .i64 2)], .agg [.lit (.string [102, 76, 97, 67]), .lit (.int .i64 3)]] := rfl
theorem str_of {b : ByteArray} {l : List UInt8} (h : b.data.toList = l) : b = ⟨⟨l⟩⟩ := by
  cases b; cases h; rfl
/-- an element of sniff's table. -/
theorem start_at {w : World} {fuel : Nat} {cs : List Value} {ds : List (DataW Unit)} {p : List MemPlace} (h : DataW.trod (fun _ => ()) Tryz.prog w 0 (fun _ => true) false fuel 82 cs = some (.agg ds, p)) (i : Nat) (hi : i < 3) (l : List UInt8) (z : Int)
    (hd : ds[i]? = some (.agg [.lit (.string l), .lit (.int .i64 z)])) : cs[2 * i]? = some (.string ⟨⟨l⟩⟩) ∧ cs[2 * i + 1]? = some (.int .i64 z) := by
  obtain ⟨fuel', d, q, hdi, he⟩ := array_elem Tryz.underlying82 h i hi
  rw [hd] at hdi
  cases hdi
  rw [show Tryz.prog.cellsOf 81 = 2 by kernel_rfl] at he
  obtain ⟨y0, y1, n, hx, _, h0, h1⟩ := Go.ChangeShapes.trod_struct2 Tryz.underlying81 he
  obtain ⟨s, c0, x0, _⟩ := DataW.trod_string Tryz.underlying9 h0
  obtain ⟨m, c1, x1, _⟩ := DataW.trod_int Tryz.underlying23 h1
  subst x0; subst x1
  simp only [Prod.mk.injEq, DataW.agg.injEq, List.cons.injEq, DataW.lit.injEq, Lit.string.injEq, Lit.int.injEq, and_true, true_and] at hx
  obtain ⟨⟨e0, e1⟩, _⟩ := hx
  rw [show Tryz.prog.cellsOf 9 = 1 by kernel_rfl] at c0
  rw [show Tryz.prog.cellsOf 23 = 1 by kernel_rfl] at c1
  have f0 := congrArg (·[0]?) c0
  have f1 := congrArg (·[0]?) c1
  simp only [List.getElem?_take, List.getElem?_drop] at f0 f1
  simp at f0 f1
  constructor
  · rw [Nat.mul_comm, f0, str_of e0.symm]
  · rw [Nat.mul_comm, f1, e1]
set_option maxRecDepth 10000 in
theorem gok_of {W : World} (r1 : VarReads Tryz.prog W "math/bits.deBruijn32tab" Rows.laid_math_bits_deBruijn32tab) (r2 : VarReads Tryz.prog W "unicode/utf8.acceptRanges" Rows.laid_unicode_utf8_acceptRanges) (r3 : VarReads Tryz.prog W "unicode/utf8.first" Rows.laid_unicode_utf8_first)
    (r4 : VarReads Tryz.prog W "diacritic/sniff.starts" Rows.laid_diacritic_sniff_starts) : GOk W W.heap.size gk := by
  rw [bruijn_eq] at r1
  rw [accept_eq] at r2
  rw [first_eq] at r3
  rw [starts_eq] at r4
  have hU : Go.Lib.Utf8Tabs 1 2 W := utf8Tabs_of_readsT tT tX r3 r2
  have hdb : ∀ i, i < 32 → W.cell? ⟨4, i, none⟩ = some (.int .u8 (Go.Lib.deBruijn32tab.getD i 0 : Nat)) := by
    intro i hi
    obtain ⟨g, t, cs, fuel, p, hg, hty, hvar, hd⟩ := r1
    obtain rfl := Option.some.inj ((show Tryz.prog.globalNamed "math/bits.deBruijn32tab" = some 4 by kernel_rfl).symm.trans hg)
    obtain rfl := Option.some.inj ((show (Tryz.prog.globals[4]?).map (·.type) = some 371 by kernel_rfl).symm.trans hty)
    have hcs := cells_of_tab Tryz.underlying371 Tryz.underlying5 (by kernel_rfl) (by kernel_rfl) hd
    have hl : Go.Lib.deBruijn32tab.length = 32 := by kernel_rfl
    rw [World.var?_cell hg hvar i, ← Array.getElem?_toList, hcs]
    simp [List.getD, hl, hi]
  have hst : ∀ i, i < 6 → ∀ v, R16.get (lo i) nov (R16.get (hi i) nrow g1) = v → W.cell? ⟨0, i, none⟩ = some v := by
    intro i hi v hv
    obtain ⟨g, t, cs, fuel, p, hg, hty, hvar, hd⟩ := r4
    obtain rfl := Option.some.inj ((show Tryz.prog.globalNamed "diacritic/sniff.starts" = some 0 by kernel_rfl).symm.trans hg)
    obtain rfl := Option.some.inj ((show (Tryz.prog.globals[0]?).map (·.type) = some 82 by kernel_rfl).symm.trans hty)
    have q0 := start_at hd 0 (by decide) _ _ rfl
    have q1 := start_at hd 1 (by decide) _ _ rfl
    have q2 := start_at hd 2 (by decide) _ _ rfl
    rw [World.var?_cell hg hvar i, ← Array.getElem?_toList, ← hv]
    match i, hi with
    | 0, _ => exact q0.1
    | 1, _ => exact q0.2
    | 2, _ => exact q1.1
    | 3, _ => exact q1.2
    | 4, _ => exact q2.1
    | 5, _ => exact q2.2
  have key : ∀ a v, gk a = some v → W.cell? a = some v := by
    intro a v h
    obtain ⟨b, off, sp⟩ := a
    cases sp with
    | some x => cases h
    | none =>
      have h : gks b off = some v := h
      unfold gks at h
      split at h
      · rename_i hb
        obtain rfl := Nat.eq_of_beq_eq_true hb
        obtain ⟨ho, rfl⟩ := gat_some h
        rw [hU.1 off ho, isU8_eq (all_at g2_all ho)]
      · split at h
        · rename_i hb
          obtain rfl := Nat.eq_of_beq_eq_true hb
          obtain ⟨ho, rfl⟩ := gat_some h
          rw [isU8_eq (all_at g3_all ho)]
          have hq := hU.2 (off / 2) (by omega)
          rcases Nat.mod_two_eq_zero_or_one off with e | e
          · rw [e]
            have e2 : 2 * (off / 2) = off := by omega
            rw [e2] at hq
            exact hq.1
          · rw [e]
            have e2 : 2 * (off / 2) + 1 = off := by omega
            rw [e2] at hq
            exact hq.2
        · split at h
          · rename_i hb
            obtain rfl := Nat.eq_of_beq_eq_true hb
            obtain ⟨ho, rfl⟩ := gat_some h
            rw [hdb off ho, isU8_eq (all_at g6_all ho)]
          · split at h
            · rename_i hb
              obtain rfl := Nat.eq_of_beq_eq_true hb
              obtain ⟨ho, rfl⟩ := gat_some h
              exact hst off ho _ rfl
            · cases h
  exact fun a v h => ⟨cell_in (key a v h), key a v h⟩

set_option maxRecDepth 10000 in
theorem gw_of {W : World} (r1 : VarReads Tryz.prog W "math/bits.deBruijn32tab" Rows.laid_math_bits_deBruijn32tab) (r2 : VarReads Tryz.prog W "unicode/utf8.acceptRanges" Rows.laid_unicode_utf8_acceptRanges) (r3 : VarReads Tryz.prog W "unicode/utf8.first" Rows.laid_unicode_utf8_first)
    (r4 : VarReads Tryz.prog W "diacritic/sniff.starts" Rows.laid_diacritic_sniff_starts) (hsh : W.ShapedOpen Tryz.prog) : GW W := by
  refine ⟨gok_of r1 r2 r3 r4, ?_⟩
  rw [bruijn_eq] at r1
  rw [accept_eq] at r2
  rw [first_eq] at r3
  have hU : Go.Lib.Utf8Tabs 1 2 W := utf8Tabs_of_readsT tT tX r3 r2
  have hdb : ∀ i, i < 32 → W.cell? ⟨4, i, none⟩ = some (.int .u8 (Go.Lib.deBruijn32tab.getD i 0 : Nat)) := by
    intro i hi
    obtain ⟨g, t, cs, fuel, p, hg, hty, hvar, hd⟩ := r1
    obtain rfl := Option.some.inj ((show Tryz.prog.globalNamed "math/bits.deBruijn32tab" = some 4 by kernel_rfl).symm.trans hg)
    obtain rfl := Option.some.inj ((show (Tryz.prog.globals[4]?).map (·.type) = some 371 by kernel_rfl).symm.trans hty)
    have hcs := cells_of_tab Tryz.underlying371 Tryz.underlying5 (by kernel_rfl) (by kernel_rfl) hd
    have hl : Go.Lib.deBruijn32tab.length = 32 := by kernel_rfl
    rw [World.var?_cell hg hvar i, ← Array.getElem?_toList, hcs]
    simp [List.getD, hl, hi]
  have hml : ∃ m, W.cell? ⟨3, 0, none⟩ = some (.int .i64 m) :=
    cell_of_shapedOpen_int (zero := #[.int .i64 0]) (t := 3) hsh (by decide +kernel) (by kernel_rfl) rfl (by kernel_rfl) (by kernel_rfl) Tryz.underlying3
  refine ⟨hU, hdb, hml, ?_⟩
  have := cell_in (hdb 0 (by omega))
  simp only at this
  omega

/-! ### what other texts show of calls -/
def SQ (e : Entry) : Prop := ∀ w : World, TW w → Calls Tryz.prog e.1 e.2.1.toArray w fun x w' => x = .returned e.2.2 ∧ Below w.heap.size w w'
theorem sq_of {s sub : ByteArray} {z : Int} (hs : s.size < 4294967281) (h : Go.Lib.index s.data.toList sub.data.toList = z) : SQ (323, [.string s, .string sub], .int .i64 z) := fun w hT =>
  let ⟨m, hm⟩ := hT.ml
  (Tryz.strings_Index s sub m w hs hm).mono fun x w' ⟨h1, h2⟩ => ⟨by rw [h1, h], by rw [h2]; exact Below.refl _ _⟩
theorem sq_of' {s sub : ByteArray} {z : Int} (hs : s.size < 4294967281) (h : Go.Lib.index s.data.toList sub.data.toList = z) : SQ (349, [.string s, .string sub], .int .i64 z) := fun w hT =>
  let ⟨m, hm⟩ := hT.ml
  (Tryz.stringslite_Index s sub m w hs hm).mono fun x w' ⟨h1, h2⟩ => ⟨by rw [h1, h], by rw [h2]; exact Below.refl _ _⟩
theorem cd_of {c : Int} {b : ByteArray} {v : Value} (hb : b.size ≤ 1073741824) (h : decV c (bl b) = v) : SQ (192, [.int .i64 c, .string b], v) := fun w hT =>
  (cdecode_any c b w hT hb).mono fun x w' ⟨h1, h2⟩ => ⟨by rw [h1, h], h2⟩
theorem sq02 : SQ (130, [], .bool true) := fun w hT => awake02_any w hT
theorem sq04 : SQ (259, [], .bool true) := fun w hT => awake04_any w hT
theorem sq05 : SQ (205, [], .bool true) := fun w hT => awake05_any w hT
theorem sq06 : SQ (206, [], .bool true) := fun w hT => awake06_any w
theorem sq07 : SQ (207, [], .bool true) := fun w hT => awake07_any w hT
theorem sq08 : SQ (208, [], .bool true) := fun w hT => awake08_any w hT
theorem sq09 : SQ (134, [], .bool true) := fun w hT => awake09_any w hT
theorem sq10 : SQ (67, [], .bool true) := fun w hT => awake10_any w hT
end Go.Proofs.YtohbeinhlhgfiaaGreatDoor
