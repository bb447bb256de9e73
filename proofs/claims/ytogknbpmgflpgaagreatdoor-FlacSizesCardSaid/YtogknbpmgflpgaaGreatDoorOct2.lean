/- Walks: octet.In: Read, ready, Left, At, Peek, Take. -/
import Derived.Test.YtogknbpmgflpgaaGreatDoorPo
import Derived.Test.YtogknbpmgflpgaaGreatDoorSk
namespace Go.Proofs.YtogknbpmgflpgaaGreatDoor
open Go.RowKit
set_option linter.unusedVariables false
set_option linter.unusedSimpArgs false

/-- block r is a reader: of s, at n, in a greater text at b, its fault e at a. -/
def InC (w : World) (r : Nat) (s : ByteArray) (n b e a : Int) : Prop := w.heap[r]? = some (.cells #[.string s, .int .i64 n, .int .i64 b, .int .i64 e, .int .i64 a] 110 (0, 0))
theorem InC.lt {w : World} {r : Nat} {s : ByteArray} {n b e a : Int} (h : InC w r s n b e a) : r < w.heap.size := (Array.getElem?_eq_some_iff.1 h).1
theorem InC.blk {w w' : World} {r : Nat} {s : ByteArray} {n b e a : Int} (h : InC w r s n b e a) (he : w'.heap[r]? = w.heap[r]?) : InC w' r s n b e a := he.trans h
theorem InC.bel {w w' : World} {r : Nat} {s : ByteArray} {n b e a : Int} (h : InC w r s n b e a) (hb : Below w.heap.size w w') : InC w' r s n b e a := h.blk (hb.block r h.lt)
theorem InC.gr {w w' : World} {r : Nat} {row : Option Nat} {s : ByteArray} {n b e a : Int} (h : InC w r s n b e a) (hg : w.grownBy w' row) (hne : some r ≠ row) : InC w' r s n b e a := h.blk (hg.block r h.lt hne)
theorem InC.cells {w : World} {r : Nat} {s : ByteArray} {n b e a : Int} (h : InC w r s n b e a) :
    Live w r 0 (.string s) ∧ Live w r 1 (.int .i64 n) ∧ Live w r 2 (.int .i64 b) ∧ Live w r 3 (.int .i64 e) ∧ Live w r 4 (.int .i64 a) := by
  unfold InC at h
  refine ⟨⟨?_, ?_⟩, ⟨?_, ?_⟩, ⟨?_, ?_⟩, ⟨?_, ?_⟩, ⟨?_, ?_⟩⟩
  all_goals simp [World.cell?, World.frozen?, h]
theorem gr_below {w w' : World} {row : Option Nat} (h : Below w.heap.size w w') : w.grownBy w' row := ⟨h.os, h.tape, h.output, h.size, fun k hk _ => h.block k hk⟩
theorem gr_trans {w a b : World} {row : Option Nat} (h : w.grownBy a row) (k : a.grownBy b row) : w.grownBy b row := ⟨k.os.trans h.os, k.tape.trans h.tape, k.output.trans h.output, Nat.le_trans h.size k.size, fun j hj hr => (k.block j (Nat.lt_of_lt_of_le hj h.size) hr).trans (h.block j hj hr)⟩

theorem gr_set (w : World) (r o : Nat) (v : Value) : w.grownBy (w.setCell ⟨r, o, none⟩ v) (some r) := by
  refine ⟨?_, ?_, ?_, by rw [World.size_setCell]; exact Nat.le_refl _, fun k hk hr => Below.heap_setCell _ _ _ k (fun e => hr (by rw [e]))⟩
  all_goals (unfold World.setCell; repeat' split) <;> rfl
theorem InC.step {w : World} {r : Nat} {s : ByteArray} {n b e a : Int} (h : InC w r s n b e a) (q : Nat) (m : Int) : InC ((w.drewN q).setCell ⟨r, 1, none⟩ (.int .i64 m)) r s m b e a := by
  have h0 := heap_setCell_same (w.drewN q) r 1 _ _ (.int .i64 m) (show (w.drewN q).heap[r]? = _ from h)
  unfold InC
  rw [h0]
  simp
theorem inner_any (s : ByteArray) (b : Int) (w : World) : Calls Tryz.prog 36 #[.string s, .int .i64 b] w fun x w' => ∃ r, x = .returned (.pointer (some ⟨r, 0, none⟩)) ∧ w.heap.size ≤ r ∧ InC w' r s 0 (max b 0) 0 0 ∧ Below w.heap.size w w' := by
  go_enter Tryz.func36, Tryz.ntmps36
  go_wp2
  go_ret
  exact ⟨_, rfl, Nat.le_refl _, by unfold InC; exact heap_alloc_new _ _, bal (Below.refl _ _) _⟩
theorem read_any (s : ByteArray) (w : World) : Calls Tryz.prog 10 #[.string s] w fun x w' => ∃ r, x = .returned (.pointer (some ⟨r, 0, none⟩)) ∧ w.heap.size ≤ r ∧ InC w' r s 0 0 0 0 ∧ Below w.heap.size w w' := by
  have K := Lib.hid inner_any
  go_enter Tryz.func10, Tryz.ntmps10
  go_wp2_with (go_at_call 36; refine (K.out s 0 w).mono ?_; rintro x w1 ⟨r, rfl, hr, hi, hb⟩)
  go_ret
  exact ⟨r, rfl, hr, hi, hb⟩
set_option maxHeartbeats 1000000 in
theorem in_ready (w : World) (r : Nat) (s : ByteArray) (n b e a : Int) (h : InC w r s n b e a) :
    Calls Tryz.prog 62 #[.pointer (some ⟨r, 0, none⟩)] w fun x w' => x = .returned (.bool (decide (e = 0))) ∧ Below w.heap.size w w' := by
  have k1 := fun w => bad_any e a w
  obtain ⟨⟨c0, _⟩, ⟨c1, _⟩, ⟨c2, _⟩, ⟨c3, _⟩, ⟨c4, _⟩⟩ := h.cells
  have K1 := Lib.hid k1
  clear k1
  clear h
  go_enter Tryz.func62, Tryz.ntmps62
  go_wp2_with (go_at_call 12; refine (K1.out _).mono ?_; rintro x w1 ⟨rfl, hb1⟩)
  go_ret
  exact ⟨ret_b (by simp), hb1⟩
/-- what isn't read yet. -/
theorem in_left (w : World) (r : Nat) (s : ByteArray) (n : Nat) (b a : Int) (h : InC w r s n b 0 a) (hn : n ≤ s.size) (hs : s.size ≤ 1073741824) :
    Calls Tryz.prog 35 #[.pointer (some ⟨r, 0, none⟩)] w fun x w' => x = .returned (.int .i64 ((s.size : Int) - n)) ∧ Below w.heap.size w w' := by
  have k1 := fun w h => in_ready w r s n b 0 a h
  have hw : IntKind.i64.wrap ((s.size : Int) - n) = (s.size : Int) - n := wi64 _ (by omega) (by omega)
  have K1 := Lib.hid k1
  clear k1
  go_enter Tryz.func35, Tryz.ntmps35
  go_wp2_with (go_at_call 62; refine (K1.out _ h).mono ?_; rintro x w1 ⟨rfl, hb1⟩; obtain ⟨⟨c0, _⟩, ⟨c1, _⟩, _⟩ := (h.bel hb1).cells)
  go_quiet (fail)
  go_wp2
  go_ret
  exact ⟨rfl, bdn hb1 _⟩
theorem in_place (w : World) (r : Nat) (s : ByteArray) (n : Int) (b : Nat) (e a : Int) (k : Nat) (h : InC w r s n b e a) (hk : k + b ≤ 1152921504606846976) :
    Calls Tryz.prog 60 #[.pointer (some ⟨r, 0, none⟩), .int .i64 k] w fun x w' => x = .returned (.int .i64 ((b : Int) + k)) ∧ Below w.heap.size w w' := by
  obtain ⟨_, _, ⟨c2, _⟩, _⟩ := h.cells
  have hw : IntKind.i64.wrap (9223372036854775807 - (b : Int)) = 9223372036854775807 - (b : Int) := wi64 _ (by omega) (by omega)
  have hw2 : IntKind.i64.wrap ((b : Int) + k) = (b : Int) + k := wi64 _ (by omega) (by omega)
  have hlt : ¬ (9223372036854775807 - (b : Int)) < k := by omega
  clear h
  go_enter Tryz.func60, Tryz.ntmps60
  go_wp2
  go_ret
  exact ⟨rfl, Below.refl _ _⟩
theorem in_at (w : World) (r : Nat) (s : ByteArray) (n b : Nat) (e a : Int) (h : InC w r s n b e a) (hk : n + b ≤ 1152921504606846976) :
    Calls Tryz.prog 30 #[.pointer (some ⟨r, 0, none⟩)] w fun x w' => x = .returned (.int .i64 ((b : Int) + n)) ∧ Below w.heap.size w w' := by
  have k1 := fun w h => in_place w r s n b e a n h hk
  obtain ⟨_, ⟨c1, _⟩, _⟩ := h.cells
  have K1 := Lib.hid k1
  clear k1
  go_enter Tryz.func30, Tryz.ntmps30
  go_wp2_with (go_at_call 60; refine (K1.out _ h).mono ?_; rintro x w1 ⟨rfl, hb1⟩)
  go_ret
  exact ⟨rfl, hb1⟩
/-- so many bytes more, that there are. -/
theorem in_take (w : World) (r : Nat) (s : ByteArray) (n : Nat) (b a : Int) (k : Nat) (h : InC w r s n b 0 a) (hs : s.size ≤ 1073741824) (hk : n + k ≤ s.size) :
    Calls Tryz.prog 42 #[.pointer (some ⟨r, 0, none⟩), .int .i64 k] w fun x w' => x = .returned (.string (s.extract n (n + k))) ∧ InC w' r s ((n + k : Nat) : Int) b 0 a ∧ w.grownBy w' (some r) := by
  have k1 := fun w h => in_ready w r s n b 0 a h
  have hw : IntKind.i64.wrap ((s.size : Int) - n) = (s.size : Int) - n := wi64 _ (by omega) (by omega)
  have hw2 : IntKind.i64.wrap ((n : Int) + k) = (n : Int) + k := wi64 _ (by omega) (by omega)
  have hnt : ((n : Int) + k).toNat = n + k := by omega
  have hd : decide ((k : Int) < 0) = false := by simp
  have hd2 : decide ((k : Int) > (s.size : Int) - n) = false := by simp; omega
  have hd3 : decide ((s.size : Int) - n < (k : Int)) = false := by simp; omega
  have K1 := Lib.hid k1
  clear k1
  go_enter Tryz.func42, Tryz.ntmps42
  go_wp2_with (go_at_call 62; refine (K1.out _ h).mono ?_; rintro x w1 ⟨rfl, hb1⟩; obtain ⟨⟨c0, _⟩, ⟨c1, f1⟩, _⟩ := (h.bel hb1).cells)
  go_quiet (fail)
  go_wp2
  go_quiet (fail)
  go_wp2
  go_ret
  have hi := h.bel hb1
  refine ⟨rfl, ?_, ?_⟩
  · rw [Int.natCast_add]
    exact hi.step _ _
  · exact gr_trans (gr_below (bdn hb1 _)) (gr_set _ r 1 _)
end Go.Proofs.YtogknbpmgflpgaaGreatDoor
