/- Tm -/
import Derived.Deep.RegionHeld3
import Derived.Test.YtohbeinhlhgfiaaGreatDoorMUs
import Derived.Test.YtohbeinhlhgfiaaGreatDoorMCk
set_option linter.unusedVariables false
set_option linter.unusedSimpArgs false
namespace Go.Proofs.YtohbeinhlhgfiaaGreatDoor
open Go.RowKit
def hexPtsF : Nat → List UInt8 → List Int
 | 0,_=>[]
 | f + 1,l=>hexAt l 0 4 :: hexPtsF f (l.drop 5)
def hexPts (l : List UInt8) : List Int:=hexPtsF (l.length / 5) l
def conv (s : Int × Int × ByteArray) : Int × Int × List Int:=(s.1,b5cell s.2.1,hexPts (bl s.2.2))
def ncells (l : List Int) : List Value:=l.map fun n=>Value.int .i64 n
def OwnN (w : World) (B : Nat) (v : Value) (l : List Int) : Prop:=w.ownsRow B 3 1 v l.length (ncells l)
theorem OwnN.row {w : World} {B : Nat} {v : Value} {l : List Int} (h : OwnN w B v l) : Row w v l.length (ncells l):=row_owns h
theorem OwnN.bel {w w' : World} {B : Nat} {v : Value} {l : List Int} (h : OwnN w B v l) (hb : Below w.heap.size w w') : OwnN w' B v l:=orow_bel h hb
section
variable {P : Program} {ops : Array Oper} {o : Oper} {a : Act} {K : Act → World → Prop} {Q : Exit → Act → World → Prop} {E : Prop}
theorem step_push1 (hgd : o.guard = none) (s x : Operand) (t e : TypeId) (ho : o.op = .call { callee:=.builtin .append,args:=#[s,x],argTypes:=#[t,t] }) (ht : P.underlying t = some (.slice e))
 (z : Value) (size bytes : Nat) (hi : (P.info? e).map (fun i=>(i.zero,i.size,i.bytes)) = some (some z,size,bytes)) (hzs : z.cells.size = size) (hsz : 0 < size)
 (W : World) (B : Nat) (v : Value) (n : Nat) (cs : List Value) (hs : a.eval s = v) (hown : W.ownsRow B e size v n cs) (news : Array Value) (hnl : news.size = size) (h1 : ∀ u ∈ news.toList,u.oneCell' = true)
 (hx : a.eval x = .slice (some ⟨W.heap.size,0,none⟩) 1 1) (hlen : n < 70368744177664) (hby : (n + 1) * bytes ≤ 140737488355328) (hB : B ≤ W.heap.size)
 (h : ∀ v' w',w'.ownsRow B e size v' (n + 1) (cs ++ news.toList) → Below B W w' → K (a.put o.dst v') w') :
 if Region.wanted o (yielded ops a.tmps) = true then Oper.wp P o a (W.alloc (.cells news e)) K Q else E:=by
 have hw : Region.wanted o (yielded ops a.tmps) = true:=by simp [Region.wanted,hgd]
 rw [if_pos hw]
 obtain ⟨i0,hi,hz0,hz1,hz2⟩:=info_parts hi
 have hnw : ∀ j u,news.toList[j]? = some u → (W.alloc (.cells news e)).cell? ((⟨W.heap.size,0,none⟩ : Addr).add j) = some u:=by
  intro j u hj
  have ea : (⟨W.heap.size,0,none⟩ : Addr).add j = ⟨W.heap.size,j,none⟩:=by
   by_cases h0 : j = 0
   · subst h0;rfl
   · simp [Addr.add,h0]
  rw [ea,World.cell?_alloc_new]
  simpa using hj
 obtain ⟨v',w',hrun,r1,r2,_⟩:=run_append_own (P:=P) (W.alloc (.cells news e)) B t o.type e i0 z size bytes ht hi hz0 hz1 hz2 hzs hsz v n cs (orow_bel hown ((Below.refl _ _).alloc (Nat.le_refl _) _)) ⟨W.heap.size,0,none⟩ 1 1 news.toList (by simp [hnl]) hnw h1 (by unfold maxLen;omega) hby (by simp;omega)
 unfold Oper.wp
 simp [execOp,ho,resolve,invoke,builtin,hs,hx,hrun,Result.andThen]
 exact h v' w' r1 (((Below.refl _ _).alloc hB _).trans (orow_below (orow_bel hown ((Below.refl _ _).alloc (Nat.le_refl _) _)) r2 (by simp;omega)))
end
def unitsL (big : Bool) : List UInt8 → List Int
 | x :: y :: r=>unitI x y big :: unitsL big r
 | _=>[]
theorem unitsL_bd (big : Bool) (l : List UInt8) : ∀ p ∈ unitsL big l,0 ≤ p ∧ p < 65536:=by
 match l with
 | []=>intro p h;simp [unitsL] at h
 | [x]=>intro p h;simp [unitsL] at h
 | x :: y :: r=>
  intro p h
  simp only [unitsL,List.mem_cons] at h
  rcases h with rfl | h
  · exact unitI_bd x y big
  · exact unitsL_bd big r p h
def wsignU : List Int → Int × Nat
 | f :: r=>if f < 55296 ∨ 57344 ≤ f then (f,2) else match r with
  | g :: _=>if 56320 ≤ f then (0,0) else if g < 56320 ∨ 57344 ≤ g then (0,0) else (65536 + (f - 55296) * 1024 + (g - 56320),4)
  | []=>(0,0)
 | []=>(0,0)
theorem wsign_units (big : Bool) (l : List UInt8) : wsign big l = wsignU (unitsL big l):=by
 match l with
 | []=>rfl
 | [x]=>rfl
 | [x,y]=>simp [wsign,unitsL,wsignU]
 | [x,y,z]=>simp [wsign,unitsL,wsignU]
 | x :: y :: z :: u :: r=>simp [wsign,unitsL,wsignU]
theorem row_lits (w : World) (cs : Array Value) (t : TypeId) : Row (w.alloc (.cells cs t)) (.slice (some ⟨w.heap.size,0,none⟩) cs.size cs.size) cs.size cs.toList:=by
 refine ⟨_,_,rfl,fun j x hj=>⟨w.heap.size,0,rfl,?_⟩⟩
 rw [Nat.zero_add,World.cell?_alloc_new]
 simpa using hj
theorem row_at {w : World} {v : Value} {n : Nat} {cs : List Value} (h : Row w v n cs) (j : Nat) (x : Value) (hj : cs[j]? = some x) : ∃ g o cap,v = .slice (some ⟨g,o,none⟩) n cap ∧ w.cell? ⟨g,o + j,none⟩ = some x:=by
 obtain ⟨a,cap,rfl,h⟩:=h
 obtain ⟨g,o,rfl,hc⟩:=h j x hj
 exact ⟨g,o,cap,rfl,hc⟩
def IsL (t : List UInt8) : Prop:=∃ ps : List Int,t = encL ps ∧ ∀ p ∈ ps,Scal p
theorem IsL.nil : IsL []:=⟨[],rfl,fun p h=>by cases h⟩
theorem IsL.one (p : Int) (h : Scal p) : IsL (encR p):=⟨[p],by simp [encL],fun q hq=>by simp at hq;rw [hq];exact h⟩
theorem IsL.scan {t : List UInt8} (h : IsL t) : (scanL t).2 = none:=by
 obtain ⟨p,rfl,hp⟩:=h
 rw [scanL_encL p hp]
theorem IsL.pts {t : List UInt8} (h : IsL t) : ∀ p ∈ pts t,Scal p:=by
 obtain ⟨q,rfl,hq⟩:=h
 rw [pts_encL' q hq]
 exact hq
end Go.Proofs.YtohbeinhlhgfiaaGreatDoor
