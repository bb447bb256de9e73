/- Cy -/
import Derived.Shelf.Strings.OnBuilder
import Derived.Test.YtohbeinhlhgfiaaGreatDoorMPp
set_option linter.unusedVariables false
set_option linter.unusedSimpArgs false
namespace Go.Proofs.YtohbeinhlhgfiaaGreatDoor
open Go.RowKit
def leL (n : Int) : Nat → List UInt8
 | 0=>[]
 | k + 1=>UInt8.ofNat (n % 256).toNat :: leL (n / 256) k
theorem join_flat (xs : List (List UInt8)) : Lib.join xs [] = xs.flatten:=by
 cases xs with
 | nil=>rfl
 | cons x r=>rw [Lib.join_cons,Lib.joinTail,List.flatten_cons];simp
section
variable {P : Program} {ops : Array Oper} {o : Oper} {a : Act} {K : Act → World → Prop} {Q : Exit → Act → World → Prop} {E : Prop}
theorem step_pushN (hgd : o.guard = none) (s x : Operand) (t e : TypeId) (ho : o.op = .call { callee:=.builtin .append,args:=#[s,x],argTypes:=#[t,t] }) (ht : P.underlying t = some (.slice e))
 (z : Value) (size bytes : Nat) (hi : (P.info? e).map (fun i=>(i.zero,i.size,i.bytes)) = some (some z,size,bytes)) (hzs : z.cells.size = size) (hsz : 0 < size) (m : Nat)
 (W : World) (B : Nat) (v : Value) (n : Nat) (cs : List Value) (hs : a.eval s = v) (hown : W.ownsRow B e size v n cs) (news : Array Value) (hnl : news.size = m * size) (h1 : ∀ u ∈ news.toList,u.oneCell' = true)
 (hx : a.eval x = .slice (some ⟨W.heap.size,0,none⟩) m m) (hm : m ≤ 1000) (hlen : n < 70368744177664) (hby : (n + m) * bytes ≤ 140737488355328) (hB : B ≤ W.heap.size)
 (h : ∀ v' w',w'.ownsRow B e size v' (n + m) (cs ++ news.toList) → Below B W w' → (∀ k,k < W.heap.size → some k ≠ v.ownBlock → w'.heap[k]? = W.heap[k]?) → K (a.put o.dst v') w') :
 if Region.wanted o (yielded ops a.tmps) = true then Oper.wp P o a (W.alloc (.cells news e)) K Q else E:=by
 have hw : Region.wanted o (yielded ops a.tmps) = true:=by simp [Region.wanted,hgd]
 rw [if_pos hw]
 obtain ⟨i0,hi,hz0,hz1,hz2⟩:=info_parts hi
 have hnw : ∀ j u,news.toList[j]? = some u → (W.alloc (.cells news e)).cell? ((⟨W.heap.size,0,none⟩ : Addr).add j) = some u:=by
  intro j u hj
  have ea : (⟨W.heap.size,0,none⟩ : Addr).add j = ⟨W.heap.size,j,none⟩:=by
   by_cases h0 : j = 0
   · subst h0;rfl
   · simp [Addr.add,h0]
  rw [ea,World.cell?_alloc_new]
  simpa using hj
 obtain ⟨v',w',hrun,r1,r2,_⟩:=run_append_own (P:=P) (W.alloc (.cells news e)) B t o.type e i0 z size bytes ht hi hz0 hz1 hz2 hzs hsz v n cs (orow_bel hown ((Below.refl _ _).alloc (Nat.le_refl _) _)) ⟨W.heap.size,0,none⟩ m m news.toList (by simp [hnl]) hnw h1 (by unfold maxLen;omega) hby (by simp;omega)
 unfold Oper.wp
 simp [execOp,ho,resolve,invoke,builtin,hs,hx,hrun,Result.andThen]
 refine h v' w' r1 (((Below.refl _ _).alloc hB _).trans (orow_below (orow_bel hown ((Below.refl _ _).alloc (Nat.le_refl _) _)) r2 (by simp;omega))) fun k hk hne=>?_
 rw [r2.block k (by simp;omega) hne]
 exact ((Below.refl _ _).alloc (Nat.le_refl _) _).block k hk
end
end Go.Proofs.YtohbeinhlhgfiaaGreatDoor
