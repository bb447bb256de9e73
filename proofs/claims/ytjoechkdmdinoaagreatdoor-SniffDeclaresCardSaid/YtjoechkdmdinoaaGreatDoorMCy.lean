/- Cy -/
import Derived.Shelf.Strings.OnBuilder
import Derived.Test.YtjoechkdmdinoaaGreatDoorMPp
set_option linter.unusedVariables false
set_option linter.unusedSimpArgs false
set_option maxHeartbeats 1000000
namespace Go.Proofs.YtjoechkdmdinoaaGreatDoor
open Go.RowKit
def leL (n : Int) : Nat → List UInt8
 | 0=>[]
 | k + 1=>UInt8.ofNat (n % 256).toNat :: leL (n / 256) k
theorem leL_4 (n : Nat) : leL n 4 = le4 n:=by
 unfold leL leL leL leL leL le4
 have h : ∀ m k : Nat,(k : Int) = m → UInt8.ofNat ((k : Int) % 256).toNat = UInt8.ofNat m:=by
  intro m k h
  apply UInt8.toNat_inj.1
  rw [UInt8.toNat_ofNat',UInt8.toNat_ofNat']
  omega
 have e1 : (n : Int) / 256 = ((n / 256 : Nat) : Int):=by omega
 have e2 : (n : Int) / 256 / 256 = ((n / 65536 : Nat) : Int):=by omega
 have e3 : (n : Int) / 256 / 256 / 256 = ((n / 16777216 : Nat) : Int):=by omega
 rw [e3,e2,e1,h n n rfl,h _ _ rfl,h _ _ rfl,h _ _ rfl]
theorem set_pre (p : List UInt8) (j : Nat) (b : UInt8) : (p ++ List.replicate (j + 1) (0 : UInt8)).set p.length b = (p ++ [b]) ++ List.replicate j 0:=by
 rw [List.set_append_right _ _ (Nat.le_refl _),List.replicate_succ]
 simp
theorem osmall_any (n size : Int) (w : World) (h0 : 0 ≤ n) (h1 : n < 18446744073709551616) :
 Calls Tryz.prog 183 #[.int .u64 n,.int .i64 size] w fun e w'=>e = .returned (.string ⟨(leL n (widthOf size)).toArray⟩) ∧ Below w.heap.size w w':=by
 obtain ⟨i0,hi,hz0,hz1,hz2⟩:=info_parts infoU8
 have hw8:=widthOf_le size
 have c1:=fun w=>width_any size w
 generalize widthOf size = m at *
 have C1:=Lib.hid c1
 clear c1
 obtain ⟨B,hB⟩ : ∃ B,B = w.heap.size:=⟨_,rfl⟩
 go_enter Tryz.func183,Tryz.ntmps183
 go_wp2_with (first
  | (go_at_call 274;refine (C1.out _).mono ?_;rintro e w' ⟨rfl,rfl⟩)
  | (refine wpList_make_full _ rfl _ _ 77 rfl w.heap.size 5 i0 (.int .u8 0) 1 Tryz.underlying77 hi hz0 hz1 .i64 .i64 (m : Int) (m : Int) m rfl rfl rfl rfl (by rw [hz2];omega) (by unfold maxLen;omega) (Nat.le_refl _) ?_;intro W hown hgrow))
 rw [show (madeCells (Value.int IntKind.u8 0).cells (m * 1)).toList = bcells (List.replicate m 0) from by rw [show (Value.int IntKind.u8 0).cells = #[Value.int IntKind.u8 0] from rfl,toList_madeCells_one];simp [bcells]] at hown
 have hbel : Below w.heap.size w W:=(Below.refl _ _).grown hgrow (Nat.le_refl _) (by intro k hk;cases hk)
 clear hgrow
 rw [← hB] at hown hbel ⊢
 have HBs:=Lib.hid hB
 clear hB
 go_loopw [0,12] (fun q i wr=>∃ (k : Nat) (x : Int) (p : List UInt8),k ≤ m ∧ p.length = k ∧ 0 ≤ x ∧ x ≤ n ∧ q = .int .u64 x ∧ i = .int .i64 (k : Int) ∧ leL n m = p ++ leL x (m - k) ∧
  wr.ownsRow B 5 1 (.slice (some ⟨B,0,none⟩) m m) m (bcells (p ++ List.replicate (m - k) 0)) ∧ Below B w wr) (fun _ i _=>m - (intOf i).toNat)
 case atStart=>exact ⟨0,n,[],Nat.zero_le _,rfl,h0,Int.le_refl _,rfl,rfl,by simp,by simpa using hown,hbel⟩
 case round=>
  obtain ⟨k,x,p,hk,hpl,hx0,hx1,rfl,rfl,hbig,hown,hbel⟩:=hrel
  by_cases hlt : k < m
  · obtain ⟨j,hj⟩ : ∃ j,m - k = j + 1:=⟨m - k - 1,by omega⟩
    rw [hj] at hown hbig
    have hc : wr.cell? ⟨B,k,none⟩ = some (.int .u8 0):=by
     rw [hown.cellAt k (by omega)];simp [bcells,List.getElem?_append,hpl]
    have hf:=hown.frozenAt k
    have hst:=hown.stored k (.int .u8 ((UInt8.ofNat (x % 256).toNat).toNat : Int))
    have hsp:=set_pre p j (UInt8.ofNat (x % 256).toNat)
    rw [hpl] at hsp
    rw [bcells_set,hsp,byte_wrap x hx0] at hst
    have hj2 : m - (k + 1) = j:=by omega
    have HS:=Lib.hid hst
    have HB:=Lib.hid hbig
    have HL:=Lib.hid hpl
    have HJ:=Lib.hid hj2
    clear hbig hst hown hpl hsp hj hj2
    go_wp2
    go_roundw
    case rel=>exact ⟨k + 1,x / 256,p ++ [UInt8.ofNat (x % 256).toNat],by omega,by have:=HL.out;simp;omega,by omega,by omega,rfl,by go_num,by rw [HJ.out,HB.out,leL];simp,by rw [HJ.out];exact HS.out.1,hbel.setCell (Nat.le_refl _) _⟩
    case measure=>simp [intOf];omega
  · have hkm : m - k = 0:=by omega
    rw [hkm,List.replicate_zero,List.append_nil] at hown
    rw [hkm,leL,List.append_nil] at hbig
    have hcv:=conv_own (P:=Tryz.prog) 77 9 Tryz.underlying77 Tryz.underlying5 Tryz.underlying9 hown
    have HB:=Lib.hid hbig
    clear hbig hkm hpl
    go_wp2
    go_ret
    exact ⟨ret_s (by rw [HB.out]),by rw [← HBs.out];exact hbel⟩
theorem widthOf4 : widthOf 4 = 4:=by decide
theorem infoStr : (Tryz.prog.info? 9).map (fun i=>(i.zero,i.size,i.bytes)) = some (some (.string ⟨#[]⟩),1,16):=by kernel_rfl
theorem join_flat (xs : List (List UInt8)) : Lib.join xs [] = xs.flatten:=by
 cases xs with
 | nil=>rfl
 | cons x r=>rw [Lib.join_cons,Lib.joinTail,List.flatten_cons];simp
theorem scells_append (l m : List ByteArray) : scells (l ++ m) = scells l ++ scells m:=by simp [scells]
set_option maxRecDepth 100000 in
theorem ojoin_any (B : Nat) (v : Value) (xs : List ByteArray) (w : World) (hown : w.ownsRow B 9 1 v xs.length (scells xs)) (hne : xs ≠ []) (hn : xs.length ≤ 1073741824) (hlen : (xs.map bl).flatten.length ≤ 140737488355328) :
 Calls Tryz.prog 55 #[v] w fun e w'=>e = .returned (.string ⟨(xs.map bl).flatten.toArray⟩) ∧ Below w.heap.size w w':=by
 have hr:=row_owns hown
 have hcap : ∃ g cap,v = .slice (some ⟨g,0,none⟩) xs.length cap ∧ xs.length ≤ cap ∧ g < w.heap.size:=by
  rcases hown.2 with ⟨_,h⟩ | ⟨g,cap,cur,rfl,_,hh,hnc,_⟩
  · exact absurd (List.eq_nil_of_length_eq_zero h) hne
  · exact ⟨g,cap,rfl,hnc,(Array.getElem?_eq_some_iff.1 hh).1⟩
 obtain ⟨g,cap,rfl,hc,hg⟩:=hcap
 have hcells : ∀ (j : Nat) x,xs[j]? = some x → w.cell? ⟨g,0 + j,none⟩ = some (.string x):=by
  intro j x hx
  obtain ⟨a,c,e,h⟩:=hr
  simp only [Value.slice.injEq] at e
  obtain ⟨rfl,_,_⟩:=e
  obtain ⟨g',o',e',hcell⟩:=h j (.string x) (by simp [scells,hx])
  simp only [Option.some.injEq,Addr.mk.injEq,and_true] at e'
  obtain ⟨rfl,rfl⟩:=e'
  exact hcell
 have k1:=Tryz.strings_Join g 0 cap xs ⟨#[]⟩ w hcells hg (by omega) hc (by show (Lib.join (xs.map bl) []).length ≤ _;rw [join_flat];exact hlen)
 have k1 : Calls Tryz.prog 102 #[.slice (some ⟨g,0,none⟩) xs.length cap,.string ⟨#[]⟩] w fun e w'=>e = .returned (.string ⟨(xs.map bl).flatten.toArray⟩) ∧ Below w.heap.size w w':=by
  have e : Lib.join (xs.map fun x=>x.data.toList) (⟨#[]⟩ : ByteArray).data.toList = (xs.map bl).flatten:=join_flat _
  rw [e] at k1
  exact k1
 generalize (xs.map bl).flatten = r at *
 have K1:=Lib.hid k1
 clear k1
 clear hcells hr hown
 go_enter Tryz.func55,Tryz.ntmps55
 go_wp2_with (go_at_call 102;refine (K1.out).mono ?_;rintro e w1 ⟨rfl,hb1⟩)
 go_ret
 exact ⟨rfl,hb1⟩
section
variable {P : Program} {ops : Array Oper} {o : Oper} {a : Act} {K : Act → World → Prop} {Q : Exit → Act → World → Prop} {E : Prop}
theorem step_pushN (hgd : o.guard = none) (s x : Operand) (t e : TypeId) (ho : o.op = .call { callee:=.builtin .append,args:=#[s,x],argTypes:=#[t,t] }) (ht : P.underlying t = some (.slice e))
 (z : Value) (size bytes : Nat) (hi : (P.info? e).map (fun i=>(i.zero,i.size,i.bytes)) = some (some z,size,bytes)) (hzs : z.cells.size = size) (hsz : 0 < size) (m : Nat)
 (W : World) (B : Nat) (v : Value) (n : Nat) (cs : List Value) (hs : a.eval s = v) (hown : W.ownsRow B e size v n cs) (news : Array Value) (hnl : news.size = m * size) (h1 : ∀ u ∈ news.toList,u.oneCell' = true)
 (hx : a.eval x = .slice (some ⟨W.heap.size,0,none⟩) m m) (hm : m ≤ 1000) (hlen : n < 70368744177664) (hby : (n + m) * bytes ≤ 140737488355328) (hB : B ≤ W.heap.size)
 (h : ∀ v' w',w'.ownsRow B e size v' (n + m) (cs ++ news.toList) → Below B W w' → (∀ k,k < W.heap.size → some k ≠ v.ownBlock → w'.heap[k]? = W.heap[k]?) → K (a.put o.dst v') w') :
 if Region.wanted o (yielded ops a.tmps) = true then Oper.wp P o a (W.alloc (.cells news e)) K Q else E:=by
 have hw : Region.wanted o (yielded ops a.tmps) = true:=by simp [Region.wanted,hgd]
 rw [if_pos hw]
 obtain ⟨i0,hi,hz0,hz1,hz2⟩:=info_parts hi
 have hnw : ∀ j u,news.toList[j]? = some u → (W.alloc (.cells news e)).cell? ((⟨W.heap.size,0,none⟩ : Addr).add j) = some u:=by
  intro j u hj
  have ea : (⟨W.heap.size,0,none⟩ : Addr).add j = ⟨W.heap.size,j,none⟩:=by
   by_cases h0 : j = 0
   · subst h0;rfl
   · simp [Addr.add,h0]
  rw [ea,World.cell?_alloc_new]
  simpa using hj
 obtain ⟨v',w',hrun,r1,r2,_⟩:=run_append_own (P:=P) (W.alloc (.cells news e)) B t o.type e i0 z size bytes ht hi hz0 hz1 hz2 hzs hsz v n cs (orow_bel hown ((Below.refl _ _).alloc (Nat.le_refl _) _)) ⟨W.heap.size,0,none⟩ m m news.toList (by simp [hnl]) hnw h1 (by unfold maxLen;omega) hby (by simp;omega)
 unfold Oper.wp
 simp [execOp,ho,resolve,invoke,builtin,hs,hx,hrun,Result.andThen]
 refine h v' w' r1 (((Below.refl _ _).alloc hB _).trans (orow_below (orow_bel hown ((Below.refl _ _).alloc (Nat.le_refl _) _)) r2 (by simp;omega))) fun k hk hne=>?_
 rw [r2.block k (by simp;omega) hne]
 exact ((Below.refl _ _).alloc (Nat.le_refl _) _).block k hk
end
def numS (n : Nat) : ByteArray:=⟨(le4 n).toArray⟩
end Go.Proofs.YtjoechkdmdinoaaGreatDoor
