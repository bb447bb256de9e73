/- Small lemmas on owned rows of bytes, and on what lies below. -/
import Derived.WalkKit
import Derived.Laws.IdiomStrings
import Derived.Lib.BufferRead
import Derived.Lib.Hide
import Derived.WalkSmall
namespace Go.Proofs.Ythboonolnnjdeaa
open Go.RowKit
set_option linter.unusedVariables false

/-- what lies below stays so: two calls, one behind the other. -/
theorem bt {w a b : World} (h : Below w.heap.size w a) (k : Below a.heap.size a b) : Below w.heap.size w b := h.trans (k.mono h.size)
theorem bal {w a : World} (h : Below w.heap.size w a) (o : Obj) : Below w.heap.size w (a.alloc o) := h.alloc h.size o
theorem bdn {w a : World} (h : Below w.heap.size w a) (n : Nat) : Below w.heap.size w (a.drewN n) := h.trans ⟨rfl, rfl, rfl, Nat.le_refl _, fun _ _ => rfl⟩

/-- the cells of bytes. -/
def bcells (l : List UInt8) : List Value := l.map fun b => Value.int .u8 (b.toNat : Int)
theorem bcells_length (l : List UInt8) : (bcells l).length = l.length := by simp [bcells]
theorem bcells_append (l m : List UInt8) : bcells (l ++ m) = bcells l ++ bcells m := by simp [bcells]

/-- 'string(b)' of an owned row of bytes. -/
theorem conv_own {P : Program} {w : World} {base : Nat} {e : TypeId} {v : Value} {n : Nat} {l : List UInt8} (src dst : TypeId)
    (hs : P.underlying src = some (.slice e)) (he : P.underlying e = some (.int .u8)) (hd : P.underlying dst = some .string)
    (hown : w.ownsRow base e 1 v n (bcells l)) : (convert src dst v).run P w = .ok (.string ⟨l.toArray⟩) w := by
  have hlen : l.length = n := by have := hown.1; rw [bcells_length] at this; omega
  rcases hown.2 with ⟨rfl, rfl⟩ | ⟨g, cap, cur, rfl, hg, hh, hnc, hcm, hcs, htk⟩
  · have : l = [] := List.eq_nil_of_length_eq_zero hlen
    subst this
    exact Lib.run_convert_nil_bytes w src dst e 0 hs he hd
  · subst hlen
    refine run_convert_bytes_back w src dst e ⟨g, 0, none⟩ cap l hs he hd ?_
    intro j hj
    have := hown.cellAt j (by omega)
    have ea : (⟨g, 0, none⟩ : Addr).add j = ⟨g, j, none⟩ := by
      by_cases h0 : j = 0
      · subst h0; rfl
      · simp [Addr.add, h0]
    rw [ea, this]
    simp [bcells, hj]

/-- a store of a byte into an owned row. -/
theorem bcells_set (l : List UInt8) (j : Nat) (b : UInt8) : (bcells l).set j (.int .u8 (b.toNat : Int)) = bcells (l.set j b) := by
  simp [bcells, List.map_set]
end Go.Proofs.Ythboonolnnjdeaa
