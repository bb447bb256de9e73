/- Ox -/
import Derived.Test.YtohbeinhlhgfiaaGreatDoorMCp
set_option linter.unusedVariables false
set_option linter.unusedSimpArgs false
namespace Go.Proofs.YtohbeinhlhgfiaaGreatDoor
open Go.RowKit
def InC (w : World) (r : Nat) (s : ByteArray) (n b e a : Int) : Prop:=w.heap[r]? = some (.cells #[.string s,.int .i64 n,.int .i64 b,.int .i64 e,.int .i64 a] 162 (0,0))
theorem InC.lt {w : World} {r : Nat} {s : ByteArray} {n b e a : Int} (h : InC w r s n b e a) : r < w.heap.size:=(Array.getElem?_eq_some_iff.1 h).1
theorem InC.blk {w w' : World} {r : Nat} {s : ByteArray} {n b e a : Int} (h : InC w r s n b e a) (he : w'.heap[r]? = w.heap[r]?) : InC w' r s n b e a:=he.trans h
theorem InC.bel {w w' : World} {r : Nat} {s : ByteArray} {n b e a : Int} (h : InC w r s n b e a) (hb : Below w.heap.size w w') : InC w' r s n b e a:=h.blk (hb.block r h.lt)
theorem InC.gr {w w' : World} {r : Nat} {row : Option Nat} {s : ByteArray} {n b e a : Int} (h : InC w r s n b e a) (hg : w.grownBy w' row) (hne : some r ≠ row) : InC w' r s n b e a:=h.blk (hg.block r h.lt hne)
theorem InC.cells {w : World} {r : Nat} {s : ByteArray} {n b e a : Int} (h : InC w r s n b e a) :
 Live w r 0 (.string s) ∧ Live w r 1 (.int .i64 n) ∧ Live w r 2 (.int .i64 b) ∧ Live w r 3 (.int .i64 e) ∧ Live w r 4 (.int .i64 a):=by
 unfold InC at h
 refine ⟨⟨?_,?_⟩,⟨?_,?_⟩,⟨?_,?_⟩,⟨?_,?_⟩,⟨?_,?_⟩⟩
 all_goals simp [World.cell?,World.frozen?,h]
theorem gr_below {w w' : World} {row : Option Nat} (h : Below w.heap.size w w') : w.grownBy w' row:=⟨h.os,h.tape,h.output,h.size,fun k hk _=>h.block k hk⟩
theorem gr_trans {w a b : World} {row : Option Nat} (h : w.grownBy a row) (k : a.grownBy b row) : w.grownBy b row:=⟨k.os.trans h.os,k.tape.trans h.tape,k.output.trans h.output,Nat.le_trans h.size k.size,fun j hj hr=>(k.block j (Nat.lt_of_lt_of_le hj h.size) hr).trans (h.block j hj hr)⟩
theorem InC.step {w : World} {r : Nat} {s : ByteArray} {n b e a : Int} (h : InC w r s n b e a) (q : Nat) (m : Int) : InC ((w.drewN q).setCell ⟨r,1,none⟩ (.int .i64 m)) r s m b e a:=by
 have h0:=heap_setCell_same (w.drewN q) r 1 _ _ (.int .i64 m) (show (w.drewN q).heap[r]? = _ from h)
 unfold InC
 rw [h0]
 simp
def likeM (a b : List UInt8) : Bool:=decide (smallL a = smallL b)
def InX (w : World) (r : Nat) (x : RS) : Prop:=InC w r x.s x.n x.b x.e x.a
theorem InX.lt {w : World} {r : Nat} {x : RS} (h : InX w r x) : r < w.heap.size:=InC.lt h
theorem InX.bel {w w' : World} {r : Nat} {x : RS} (h : InX w r x) (hb : Below w.heap.size w w') : InX w' r x:=InC.bel h hb
theorem InX.gr {w w' : World} {r : Nat} {row : Option Nat} {x : RS} (h : InX w r x) (hg : w.grownBy w' row) (hne : some r ≠ row) : InX w' r x:=InC.gr h hg hne
theorem InC.next {w : World} {r : Nat} {s : ByteArray} {n b e a : Int} (h : InC w r s n b e a) (m : Int) : InC (w.setCell ⟨r,1,none⟩ (.int .i64 m)) r s m b e a:=by
 have h0:=heap_setCell_same w r 1 _ _ (.int .i64 m) h
 unfold InC
 rw [h0]
 simp
end Go.Proofs.YtohbeinhlhgfiaaGreatDoor
