/- Cp -/
import Derived.Test.YtohbeinhlhgfiaaGreatDoorMTm
set_option linter.unusedVariables false
set_option linter.unusedSimpArgs false
namespace Go.Proofs.YtohbeinhlhgfiaaGreatDoor
open Go.RowKit
structure RS where
 s : ByteArray
 n : Nat
 b : Nat
 e : Int
 a : Int
def failR (x : RS) (e a : Int) : RS:=if x.e = 0 ∧ e ≠ 0 then { x with e:=e,a:=a } else x
def shortR (x : RS) : RS:=failR x 1 ((x.b : Int) + x.s.size)
def takeR (x : RS) (k : Int) : RS × ByteArray:=
 if x.e ≠ 0 then (x,⟨#[]⟩) else if k < 0 ∨ (x.s.size : Int) - x.n < k then (shortR x,⟨#[]⟩) else ({ x with n:=x.n + k.toNat },x.s.extract x.n (x.n + k.toNat))
def leftR (x : RS) : Int:=if x.e ≠ 0 then 0 else (x.s.size : Int) - x.n
def leN : List UInt8 → Nat
 | []=>0
 | a :: l=>a.toNat + 256 * leN l
def le4 (n : Nat) : List UInt8:=[UInt8.ofNat n,UInt8.ofNat (n / 256),UInt8.ofNat (n / 65536),UInt8.ofNat (n / 16777216)]
theorem leN_le4 (n : Nat) (h : n < 4294967296) : leN (le4 n) = n:=by
 unfold le4 leN leN leN leN leN
 simp only [UInt8.toNat_ofNat']
 omega
def numR (x : RS) : RS × Nat:=((takeR x 4).1,leN (bl (takeR x 4).2))
structure Nt where
 name : ByteArray
 text : ByteArray
 set : Int
def Rest (x : RS) (q : List UInt8) : Prop:=x.e = 0 ∧ x.n ≤ x.s.size ∧ (bl x.s).drop x.n = q
def adv (x : RS) (k : Nat) : RS:={ x with n:=x.n + k }
theorem Rest.step {x : RS} {p q : List UInt8} (h : Rest x (p ++ q)) : Rest (adv x p.length) q ∧ takeR x p.length = (adv x p.length,⟨p.toArray⟩):=by
 obtain ⟨h0,h1,h2⟩:=h
 have hl:=congrArg List.length h2
 simp only [List.length_drop,List.length_append,bl_length] at hl
 have hq : (bl x.s).drop (x.n + p.length) = q:=by
  rw [← List.drop_drop,h2,List.drop_left]
 refine ⟨⟨h0,by unfold adv;simp only;omega,hq⟩,?_⟩
 unfold takeR
 rw [if_neg (by simpa using h0),if_neg (by omega)]
 have he : x.s.extract x.n (x.n + (p.length : Int).toNat) = ⟨p.toArray⟩:=by
  apply ByteArray.ext
  apply Array.toList_inj.1
  rw [ByteArray.data_extract,Array.toList_extract]
  show ((bl x.s).extract x.n (x.n + p.length)) = p
  rw [List.extract_eq_take_drop,h2]
  simp
 rw [he]
 rfl
theorem Rest.left {x : RS} {q : List UInt8} (h : Rest x q) : leftR x = q.length:=by
 obtain ⟨h0,h1,h2⟩:=h
 have hl:=congrArg List.length h2
 simp only [List.length_drop,bl_length] at hl
 unfold leftR
 rw [if_neg (by simpa using h0)]
 omega
theorem Rest.num {x : RS} {n : Nat} {q : List UInt8} (hn : n < 4294967296) (h : Rest x (le4 n ++ q)) : Rest (adv x 4) q ∧ numR x = (adv x 4,n):=by
 have h1:=h.step
 have e : (le4 n).length = 4:=rfl
 rw [e] at h1
 refine ⟨h1.1,?_⟩
 unfold numR
 have h2 : takeR x 4 = _:=h1.2
 rw [h2]
 show (adv x 4,leN (le4 n)) = _
 rw [leN_le4 n hn]
end Go.Proofs.YtohbeinhlhgfiaaGreatDoor
