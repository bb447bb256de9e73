/- Oc -/
import Derived.Deep.Slices
import Derived.Test.YtmfjmgjhfplijaaGreatDoorMFr
import Derived.Test.YtmfjmgjhfplijaaGreatDoorMOx
import Derived.Test.YtmfjmgjhfplijaaGreatDoorMTv
set_option linter.unusedVariables false
set_option linter.unusedSimpArgs false
namespace Go.Proofs.YtmfjmgjhfplijaaGreatDoor
open Go.ChangeShapes Go.WideShapes Go.ChangeAt Go.RowKit Go.ChangeMaps
def ntcells (l : List Nt) : List Value:=l.flatMap fun n=>[.string n.name,.string n.text,.int .i64 n.set]
theorem ntcells_append (l m : List Nt) : ntcells (l ++ m) = ntcells l ++ ntcells m:=by simp [ntcells]
theorem ntcells_at (l : List Nt) (i : Nat) (n : Nt) (h : l[i]? = some n) : (ntcells l)[i * 3]? = some (.string n.name) ∧ (ntcells l)[i * 3 + 1]? = some (.string n.text) ∧ (ntcells l)[i * 3 + 2]? = some (.int .i64 n.set):=by
 induction l generalizing i with
 | nil=>simp at h
 | cons m l ih=>
  cases i with
  | zero=>
   simp at h
   subst h
   exact ⟨rfl,rfl,rfl⟩
  | succ i=>
   have:=ih i (by simpa using h)
   have e : ntcells (m :: l) = [.string m.name,.string m.text,.int .i64 m.set] ++ ntcells l:=rfl
   rw [e]
   refine ⟨?_,?_,?_⟩
   · rw [List.getElem?_append_right (by simp;omega)]
     rw [show (i + 1) * 3 - [Value.string m.name,.string m.text,.int .i64 m.set].length = i * 3 by simp;omega]
     exact this.1
   · rw [List.getElem?_append_right (by simp;omega)]
     rw [show (i + 1) * 3 + 1 - [Value.string m.name,.string m.text,.int .i64 m.set].length = i * 3 + 1 by simp;omega]
     exact this.2.1
   · rw [List.getElem?_append_right (by simp;omega)]
     rw [show (i + 1) * 3 + 2 - [Value.string m.name,.string m.text,.int .i64 m.set].length = i * 3 + 2 by simp;omega]
     exact this.2.2
end Go.Proofs.YtmfjmgjhfplijaaGreatDoor
namespace Go.Proofs.YtmfjmgjhfplijaaGreatDoor
open Go.RowKit
theorem nt_at {w : World} {av : Option Addr} {l : List Nt} (hc : ∀ (j : Nat) (x : Value),(ntcells l)[j]? = some x → ∃ g o,av = some ⟨g,o,none⟩ ∧ w.cell? ⟨g,o + j,none⟩ = some x) (k : Nat) (n : Nt) (hk : l[k]? = some n) :
 ∃ g o,av = some ⟨g,o,none⟩ ∧ w.cell? ⟨g,o + k * 3,none⟩ = some (.string n.name) ∧ w.cell? ⟨g,o + k * 3 + 1,none⟩ = some (.string n.text) ∧ w.cell? ⟨g,o + k * 3 + 2,none⟩ = some (.int .i64 n.set):=by
 obtain ⟨h0,h1,h2⟩:=ntcells_at l k n hk
 obtain ⟨g,o,rfl,c0⟩:=hc _ _ h0
 obtain ⟨g',o',e,c1⟩:=hc _ _ h1
 simp only [Option.some.injEq,Addr.mk.injEq,and_true] at e
 obtain ⟨rfl,rfl⟩:=e
 obtain ⟨g',o',e,c2⟩:=hc _ _ h2
 simp only [Option.some.injEq,Addr.mk.injEq,and_true] at e
 obtain ⟨rfl,rfl⟩:=e
 exact ⟨g,o,rfl,c0,c1,c2⟩
end Go.Proofs.YtmfjmgjhfplijaaGreatDoor
