/- Pp -/
import Derived.Deep.DrawnRows
import Derived.Test.YtohbeinhlhgfiaaGreatDoorMOx
import Derived.Test.YtohbeinhlhgfiaaGreatDoorMTv
import Derived.Deep.Slices
import Derived.Test.YtohbeinhlhgfiaaGreatDoorMFr
set_option linter.unusedVariables false
set_option linter.unusedSimpArgs false
namespace Go.Proofs.YtohbeinhlhgfiaaGreatDoor
open Go.RowKit
theorem live_of {w : World} {b : Nat} {cs : Array Value} {t : TypeId} (h : w.heap[b]? = some (.cells cs t (0,0))) (i : Nat) (v : Value) (hi : cs[i]? = some v) : Live w b i v:=by
 unfold Live World.cell? World.frozen?
 rw [h]
 exact ⟨hi,by simp⟩
structure PS (w : World) (r H : Nat) (kd fb bu : Int) (g : Bool) (vt : ByteArray) (vs : Int) (v : Value) (wr : World) : Prop where
 gg : w.grownBy wr (some r)
 sc : wr.heap[H]? = some (.cells #[.pointer (some ⟨r,0,none⟩),.int .i64 kd,.int .i64 fb,.bool g,.int .i64 bu] 165 (0,0))
 bb : wr.heap[H + 1]? = some (.cells #[.string vt,.int .i64 vs,v] 44 (0,0))
 rb : wr.heap[w.heap.size + 1]? = some (.cells #[.string ⟨#[]⟩,.int .i64 0,.slice none 0 0] 44 (0,0))
 hH : w.heap.size + 2 ≤ H
 hr : r < w.heap.size
section
variable {w wr : World} {r H : Nat} {kd fb bu : Int} {g : Bool} {vt : ByteArray} {vs : Int} {v : Value}
theorem PS.gr (h : PS w r H kd fb bu g vt vs v wr) {w' : World} (hg : wr.grownBy w' (some r)) : PS w r H kd fb bu g vt vs v w':=by
 obtain ⟨a,b,c,d,e,f⟩:=h
 refine ⟨gr_trans a hg,?_,?_,?_,e,f⟩
 · exact (hg.block H (Array.getElem?_eq_some_iff.1 b).1 (by simp;omega)).trans b
 · exact (hg.block (H + 1) (Array.getElem?_eq_some_iff.1 c).1 (by simp;omega)).trans c
 · exact (hg.block (w.heap.size + 1) (Array.getElem?_eq_some_iff.1 d).1 (by simp;omega)).trans d
theorem PS.bel (h : PS w r H kd fb bu g vt vs v wr) {w' : World} (hb : Below wr.heap.size wr w') : PS w r H kd fb bu g vt vs v w':=h.gr (gr_below hb)
theorem PS.scan (h : PS w r H kd fb bu g vt vs v wr) : wr.cell? ⟨H,0,none⟩ = some (.pointer (some ⟨r,0,none⟩)) ∧ wr.cell? ⟨H,1,none⟩ = some (.int .i64 kd) ∧ wr.cell? ⟨H,2,none⟩ = some (.int .i64 fb) ∧ wr.cell? ⟨H,3,none⟩ = some (.bool g) ∧ wr.cell? ⟨H,4,none⟩ = some (.int .i64 bu):=
 ⟨(live_of h.sc 0 _ rfl).1,(live_of h.sc 1 _ rfl).1,(live_of h.sc 2 _ rfl).1,(live_of h.sc 3 _ rfl).1,(live_of h.sc 4 _ rfl).1⟩
theorem PS.blk (h : PS w r H kd fb bu g vt vs v wr) : Live wr (H + 1) 0 (.string vt) ∧ Live wr (H + 1) 1 (.int .i64 vs) ∧ Live wr (H + 1) 2 v:=
 ⟨live_of h.bb 0 _ rfl,live_of h.bb 1 _ rfl,live_of h.bb 2 _ rfl⟩
theorem PS.sz (h : PS w r H kd fb bu g vt vs v wr) : H + 2 ≤ wr.heap.size:=by
 have:=(Array.getElem?_eq_some_iff.1 h.bb).1
 omega
end
end Go.Proofs.YtohbeinhlhgfiaaGreatDoor
