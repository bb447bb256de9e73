/- Cy -/
import Derived.Shelf.Strings.OnBuilder
import Derived.Test.YtankkegoeocobaaGreatDoorMPp
set_option linter.unusedVariables false
set_option linter.unusedSimpArgs false
namespace Go.Proofs.YtankkegoeocobaaGreatDoor
open Go.RowKit
def leL (n : Int) : Nat → List UInt8
 | 0=>[]
 | k + 1=>UInt8.ofNat (n % 256).toNat :: leL (n / 256) k
theorem infoStr : (Tryz.prog.info? 9).map (fun i=>(i.zero,i.size,i.bytes)) = some (some (.string ⟨#[]⟩),1,16):=by kernel_rfl
theorem join_flat (xs : List (List UInt8)) : Lib.join xs [] = xs.flatten:=by
 cases xs with
 | nil=>rfl
 | cons x r=>rw [Lib.join_cons,Lib.joinTail,List.flatten_cons];simp
theorem scells_append (l m : List ByteArray) : scells (l ++ m) = scells l ++ scells m:=by simp [scells]
set_option maxRecDepth 100000 in
theorem ojoin_any (B : Nat) (v : Value) (xs : List ByteArray) (w : World) (hown : w.ownsRow B 9 1 v xs.length (scells xs)) (hne : xs ≠ []) (hn : xs.length ≤ 1073741824) (hlen : (xs.map bl).flatten.length ≤ 140737488355328) :
 Calls Tryz.prog 60 #[v] w fun e w'=>e = .returned (.string ⟨(xs.map bl).flatten.toArray⟩) ∧ Below w.heap.size w w':=by
 have hr:=row_owns hown
 have hcap : ∃ g cap,v = .slice (some ⟨g,0,none⟩) xs.length cap ∧ xs.length ≤ cap ∧ g < w.heap.size:=by
  rcases hown.2 with ⟨_,h⟩ | ⟨g,cap,cur,rfl,_,hh,hnc,_⟩
  · exact absurd (List.eq_nil_of_length_eq_zero h) hne
  · exact ⟨g,cap,rfl,hnc,(Array.getElem?_eq_some_iff.1 hh).1⟩
 obtain ⟨g,cap,rfl,hc,hg⟩:=hcap
 have hcells : ∀ (j : Nat) x,xs[j]? = some x → w.cell? ⟨g,0 + j,none⟩ = some (.string x):=by
  intro j x hx
  obtain ⟨a,c,e,h⟩:=hr
  simp only [Value.slice.injEq] at e
  obtain ⟨rfl,_,_⟩:=e
  obtain ⟨g',o',e',hcell⟩:=h j (.string x) (by simp [scells,hx])
  simp only [Option.some.injEq,Addr.mk.injEq,and_true] at e'
  obtain ⟨rfl,rfl⟩:=e'
  exact hcell
 have k1:=Tryz.strings_Join g 0 cap xs ⟨#[]⟩ w hcells hg (by omega) hc (by show (Lib.join (xs.map bl) []).length ≤ _;rw [join_flat];exact hlen)
 have k1 : Calls Tryz.prog 120 #[.slice (some ⟨g,0,none⟩) xs.length cap,.string ⟨#[]⟩] w fun e w'=>e = .returned (.string ⟨(xs.map bl).flatten.toArray⟩) ∧ Below w.heap.size w w':=by
  have e : Lib.join (xs.map fun x=>x.data.toList) (⟨#[]⟩ : ByteArray).data.toList = (xs.map bl).flatten:=join_flat _
  rw [e] at k1
  exact k1
 generalize (xs.map bl).flatten = r at *
 have K1:=Lib.hid k1
 clear k1
 clear hcells hr hown
 go_enter Tryz.func60,Tryz.ntmps60
 go_wp2_with (go_at_call 120;refine (K1.out).mono ?_;rintro e w1 ⟨rfl,hb1⟩)
 go_ret
 exact ⟨rfl,hb1⟩
section
variable {P : Program} {ops : Array Oper} {o : Oper} {a : Act} {K : Act → World → Prop} {Q : Exit → Act → World → Prop} {E : Prop}
theorem step_pushN (hgd : o.guard = none) (s x : Operand) (t e : TypeId) (ho : o.op = .call { callee:=.builtin .append,args:=#[s,x],argTypes:=#[t,t] }) (ht : P.underlying t = some (.slice e))
 (z : Value) (size bytes : Nat) (hi : (P.info? e).map (fun i=>(i.zero,i.size,i.bytes)) = some (some z,size,bytes)) (hzs : z.cells.size = size) (hsz : 0 < size) (m : Nat)
 (W : World) (B : Nat) (v : Value) (n : Nat) (cs : List Value) (hs : a.eval s = v) (hown : W.ownsRow B e size v n cs) (news : Array Value) (hnl : news.size = m * size) (h1 : ∀ u ∈ news.toList,u.oneCell' = true)
 (hx : a.eval x = .slice (some ⟨W.heap.size,0,none⟩) m m) (hm : m ≤ 1000) (hlen : n < 70368744177664) (hby : (n + m) * bytes ≤ 140737488355328) (hB : B ≤ W.heap.size)
 (h : ∀ v' w',w'.ownsRow B e size v' (n + m) (cs ++ news.toList) → Below B W w' → (∀ k,k < W.heap.size → some k ≠ v.ownBlock → w'.heap[k]? = W.heap[k]?) → K (a.put o.dst v') w') :
 if Region.wanted o (yielded ops a.tmps) = true then Oper.wp P o a (W.alloc (.cells news e)) K Q else E:=by
 have hw : Region.wanted o (yielded ops a.tmps) = true:=by simp [Region.wanted,hgd]
 rw [if_pos hw]
 obtain ⟨i0,hi,hz0,hz1,hz2⟩:=info_parts hi
 have hnw : ∀ j u,news.toList[j]? = some u → (W.alloc (.cells news e)).cell? ((⟨W.heap.size,0,none⟩ : Addr).add j) = some u:=by
  intro j u hj
  have ea : (⟨W.heap.size,0,none⟩ : Addr).add j = ⟨W.heap.size,j,none⟩:=by
   by_cases h0 : j = 0
   · subst h0;rfl
   · simp [Addr.add,h0]
  rw [ea,World.cell?_alloc_new]
  simpa using hj
 obtain ⟨v',w',hrun,r1,r2,_⟩:=run_append_own (P:=P) (W.alloc (.cells news e)) B t o.type e i0 z size bytes ht hi hz0 hz1 hz2 hzs hsz v n cs (orow_bel hown ((Below.refl _ _).alloc (Nat.le_refl _) _)) ⟨W.heap.size,0,none⟩ m m news.toList (by simp [hnl]) hnw h1 (by unfold maxLen;omega) hby (by simp;omega)
 unfold Oper.wp
 simp [execOp,ho,resolve,invoke,builtin,hs,hx,hrun,Result.andThen]
 refine h v' w' r1 (((Below.refl _ _).alloc hB _).trans (orow_below (orow_bel hown ((Below.refl _ _).alloc (Nat.le_refl _) _)) r2 (by simp;omega))) fun k hk hne=>?_
 rw [r2.block k (by simp;omega) hne]
 exact ((Below.refl _ _).alloc (Nat.le_refl _) _).block k hk
end
end Go.Proofs.YtankkegoeocobaaGreatDoor
