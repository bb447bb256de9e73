/- GB -/
import Derived.Test.YtnbglcaeekppjaaGreatDoorMGA
import Derived.Test.YtnbglcaeekppjaaGreatDoorMAy
set_option linter.unusedVariables false
set_option linter.unusedSimpArgs false
set_option maxHeartbeats 4000000
namespace Go.Proofs.YtnbglcaeekppjaaGreatDoor
open Go.RowKit
section
variable {P : Program} {ops : Array Oper} {rest : List Oper} {o : Oper} {a : Act} {Q : Exit → Act → World → Prop}
theorem wpList_pushN (hgd : o.guard = none) (s x : Operand) (t e : TypeId) (ho : o.op = .call { callee:=.builtin .append,args:=#[s,x],argTypes:=#[t,t] }) (ht : P.underlying t = some (.slice e))
 (z : Value) (size bytes : Nat) (hi : (P.info? e).map (fun i=>(i.zero,i.size,i.bytes)) = some (some z,size,bytes)) (hzs : z.cells.size = size) (hsz : 0 < size) (m : Nat)
 (W : World) (B : Nat) (v : Value) (n : Nat) (cs : List Value) (hs : a.eval s = v) (hown : W.ownsRow B e size v n cs) (news : Array Value) (hnl : news.size = m * size) (h1 : ∀ u ∈ news.toList,u.oneCell' = true)
 (hx : a.eval x = .slice (some ⟨W.heap.size,0,none⟩) m m) (hm : m ≤ 1000) (hlen : n < 70368744177664) (hby : (n + m) * bytes ≤ 140737488355328) (hB : B ≤ W.heap.size)
 (h : ∀ v' w',w'.ownsRow B e size v' (n + m) (cs ++ news.toList) → Below B W w' → (∀ k,k < W.heap.size → some k ≠ v.ownBlock → w'.heap[k]? = W.heap[k]?) → wpList P ops Q rest (a.put o.dst v') w') : wpList P ops Q (o :: rest) a (W.alloc (.cells news e)):=by
 obtain ⟨i0,hi,hz0,hz1,hz2⟩:=info_parts hi
 refine wpList_append_own _ hgd s x t ho B e i0 z size bytes ht hi hz0 hz1 hz2 hzs hsz v n cs hs (orow_bel hown ((Below.refl _ _).alloc (Nat.le_refl _) _)) ⟨W.heap.size,0,none⟩ m m news.toList hx (by simp [hnl]) ?_ h1 ?_ ?_ ?_ ?_
 · intro j u hj
   have ea : (⟨W.heap.size,0,none⟩ : Addr).add j = ⟨W.heap.size,j,none⟩:=by
    by_cases h0 : j = 0
    · subst h0;rfl
    · simp [Addr.add,h0]
   rw [ea,World.cell?_alloc_new]
   simpa using hj
 · unfold maxLen;omega
 · exact hby
 · simp;omega
 · intro v' w1 h2 h3 _
   refine h v' w1 h2 (((Below.refl _ _).alloc hB _).trans (orow_below (orow_bel hown ((Below.refl _ _).alloc (Nat.le_refl _) _)) h3 (by simp;omega))) fun k hk hne=>?_
   rw [h3.block k (by simp;omega) hne]
   exact ((Below.refl _ _).alloc (Nat.le_refl _) _).block k hk
end
theorem big_1 (h : Nat) : bigL (h : Int) (widthOf 1) = [UInt8.ofNat h]:=by
 have e : widthOf 1 = 1:=by decide
 rw [e]
 unfold bigL bigL
 simp only [List.nil_append,List.cons.injEq,and_true]
 apply UInt8.toNat_inj.1
 rw [UInt8.toNat_ofNat',UInt8.toNat_ofNat']
 omega
theorem bits_u32 (op : BinOp) (x y : Int) : 0 ≤ bits op .u32 x y ∧ bits op .u32 x y < 4294967296:=by
 unfold bits
 rw [IntKind.wrap_u32]
 omega
def stI (x : Int) : Int:=if (bits .and .u32 x 2147483648 != 0) = true then bits .xor .u32 (x * 2 % 4294967296) 79764919 else x * 2 % 4294967296
def stN : Nat → Int → Int
 | 0,x=>x
 | j + 1,x=>stI (stN j x)
def hv (k : Nat) : Int:=stN 4 ((k : Int) * 268435456)
theorem stI_bd (x : Int) : 0 ≤ stI x ∧ stI x < 4294967296:=by
 unfold stI
 split
 · exact bits_u32 _ _ _
 · omega
theorem hv_bd (k : Nat) : 0 ≤ hv k ∧ hv k < 4294967296:=stI_bd _
def hvA (k : Nat) : Array Value:=#[.int .u32 (if 0 < k then hv 0 else 0),.int .u32 (if 1 < k then hv 1 else 0),.int .u32 (if 2 < k then hv 2 else 0),.int .u32 (if 3 < k then hv 3 else 0),.int .u32 (if 4 < k then hv 4 else 0),.int .u32 (if 5 < k then hv 5 else 0),.int .u32 (if 6 < k then hv 6 else 0),.int .u32 (if 7 < k then hv 7 else 0),.int .u32 (if 8 < k then hv 8 else 0),.int .u32 (if 9 < k then hv 9 else 0),.int .u32 (if 10 < k then hv 10 else 0),.int .u32 (if 11 < k then hv 11 else 0),.int .u32 (if 12 < k then hv 12 else 0),.int .u32 (if 13 < k then hv 13 else 0),.int .u32 (if 14 < k then hv 14 else 0),.int .u32 (if 15 < k then hv 15 else 0)]
theorem hvA_set : ∀ k,k < 16 → (hvA k).setIfInBounds k (.int .u32 (hv k)) = hvA (k + 1):=by
 intro k hk
 match k,hk with
 | 0,_=>rfl
 | 1,_=>rfl
 | 2,_=>rfl
 | 3,_=>rfl
 | 4,_=>rfl
 | 5,_=>rfl
 | 6,_=>rfl
 | 7,_=>rfl
 | 8,_=>rfl
 | 9,_=>rfl
 | 10,_=>rfl
 | 11,_=>rfl
 | 12,_=>rfl
 | 13,_=>rfl
 | 14,_=>rfl
 | 15,_=>rfl
 | n + 16,h=>exact absurd h (by omega)
theorem hvA_at : ∀ k,k < 16 → (hvA k)[k]? = some (.int .u32 0):=by
 intro k hk
 match k,hk with
 | 0,_=>rfl
 | 1,_=>rfl
 | 2,_=>rfl
 | 3,_=>rfl
 | 4,_=>rfl
 | 5,_=>rfl
 | 6,_=>rfl
 | 7,_=>rfl
 | 8,_=>rfl
 | 9,_=>rfl
 | 10,_=>rfl
 | 11,_=>rfl
 | 12,_=>rfl
 | 13,_=>rfl
 | 14,_=>rfl
 | 15,_=>rfl
 | n + 16,h=>exact absurd h (by omega)
set_option maxRecDepth 100000 in
theorem halves_any (w : World) : Calls Tryz.prog 139 #[] w fun e w'=>e = .returned (.agg (hvA 16)) ∧ Below w.heap.size w w':=by
 obtain ⟨H,hH⟩ : ∃ H,H = w.heap.size:=⟨_,rfl⟩
 have hs1 : (w.alloc (.cells #[.int .u32 0,.int .u32 0,.int .u32 0,.int .u32 0,.int .u32 0,.int .u32 0,.int .u32 0,.int .u32 0,.int .u32 0,.int .u32 0,.int .u32 0,.int .u32 0,.int .u32 0,.int .u32 0,.int .u32 0,.int .u32 0] 187)).heap.size = w.heap.size + 1:=World.size_alloc _ _
 obtain ⟨W,hW⟩ : ∃ W,W = (w.alloc (.cells #[.int .u32 0,.int .u32 0,.int .u32 0,.int .u32 0,.int .u32 0,.int .u32 0,.int .u32 0,.int .u32 0,.int .u32 0,.int .u32 0,.int .u32 0,.int .u32 0,.int .u32 0,.int .u32 0,.int .u32 0,.int .u32 0] 187)).alloc (.cells #[.int .u32 0,.int .u32 0,.int .u32 0,.int .u32 0,.int .u32 0,.int .u32 0,.int .u32 0,.int .u32 0,.int .u32 0,.int .u32 0,.int .u32 0,.int .u32 0,.int .u32 0,.int .u32 0,.int .u32 0,.int .u32 0] 187):=⟨_,rfl⟩
 have A : W.heap[w.heap.size]? = some (.cells #[.int .u32 0,.int .u32 0,.int .u32 0,.int .u32 0,.int .u32 0,.int .u32 0,.int .u32 0,.int .u32 0,.int .u32 0,.int .u32 0,.int .u32 0,.int .u32 0,.int .u32 0,.int .u32 0,.int .u32 0,.int .u32 0] 187 (0,0)):=by
  rw [hW];exact (heap_alloc_old _ _ (by rw [hs1];omega)).trans (heap_alloc_new _ _)
 have B : W.heap[w.heap.size + 1]? = some (.cells (hvA 0) 187 (0,0)):=by
  rw [hW,← hs1];exact heap_alloc_new _ _
 have hbW : Below w.heap.size w W:=by rw [hW];exact bal (bal (Below.refl _ _) _) _
 have A0:=Lib.hid A
 have B0:=Lib.hid B
 have HBW:=Lib.hid hbW
 clear A B hbW
 clear hs1
 go_enter Tryz.func139,Tryz.ntmps139
 go_wp2_with fail
 rw [← hW]
 clear hW
 go_loopw [4] (fun iv wr=>∃ k : Nat,iv = .int .i64 (k : Int) ∧ k ≤ 16 ∧ Hid (wr.heap[w.heap.size]? = some (.cells #[.int .u32 0,.int .u32 0,.int .u32 0,.int .u32 0,.int .u32 0,.int .u32 0,.int .u32 0,.int .u32 0,.int .u32 0,.int .u32 0,.int .u32 0,.int .u32 0,.int .u32 0,.int .u32 0,.int .u32 0,.int .u32 0] 187 (0,0))) ∧ Hid (wr.heap[w.heap.size + 1]? = some (.cells (hvA k) 187 (0,0))) ∧ Below w.heap.size w wr) (fun iv _=>16 - (intOf iv).toNat)
 case atStart=>exact ⟨0,rfl,Nat.zero_le _,A0,B0,HBW.out⟩
 case round=>
  obtain ⟨k,rfl,hk,HA,HB,hbel⟩:=hrel
  by_cases hlt : k < 16
  · go_wp2_with fail
    go_loop [3,10] (fun s j=>∃ i : Nat,s = .int .u32 (stN i ((k : Int) * 268435456)) ∧ j = .int .i64 (i : Int) ∧ i ≤ 4) (fun _ j=>4 - (intOf j).toNat)
    case atStart=>exact ⟨0,rfl,rfl,Nat.zero_le _⟩
    case round=>
     obtain ⟨i,rfl,rfl,hi⟩:=hrel
     by_cases hl2 : i < 4
     · have hS : stN (i + 1) ((k : Int) * 268435456) = stI (stN i ((k : Int) * 268435456)):=rfl
       generalize stN i ((k : Int) * 268435456) = x at *
       unfold stI at hS
       cases hb : (bits .and .u32 x 2147483648 != 0) with
       | true=>
        rw [hb,if_pos rfl] at hS
        have HS:=Lib.hid hS
        clear hS
        go_wp2_with fail
        go_round
        case rel=>exact ⟨i + 1,by rw [HS.out],by go_num,by omega⟩
        case measure=>simp [intOf];omega
       | false=>
        rw [hb,if_neg (by decide)] at hS
        have HS:=Lib.hid hS
        clear hS
        go_wp2_with fail
        go_round
        case rel=>exact ⟨i + 1,by rw [HS.out],by go_num,by omega⟩
        case measure=>simp [intOf];omega
     · have hi4 : i = 4:=by omega
       have hx : stN i ((k : Int) * 268435456) = hv k:=by rw [hi4];rfl
       rw [hx]
       have hv0 : (hvA k)[k]? = some (.int .u32 0):=hvA_at k hlt
       obtain ⟨c0,f0⟩:=live_of HB.out k _ hv0
       clear hx
       have m0 : (0 : Int) ≤ (k : Int):=by omega
       have m1 : (k : Int) < 16:=by omega
       have m2 : ¬ (i : Int) < 4:=by omega
       clear hi4
       go_wp2_with fail
       exact ⟨⟨k + 1,by go_num,by omega,Lib.hid ((Below.heap_setCell _ _ _ w.heap.size (by simp)).trans HA.out),Lib.hid (by rw [Go.Lib.heap_setCell_same (i:=k) HB.out,hvA_set k hlt]),hbel.setCell (by simp) _⟩,by simp [intOf];omega⟩
  · have hk16 : k = 16:=by omega
    have HB2:=HB.out
    rw [hk16] at HB2
    obtain ⟨c0,f0⟩:=live_of HB2 0 (.int .u32 (hv 0)) rfl
    obtain ⟨d0,e0⟩:=live_of HA.out 0 _ rfl
    obtain ⟨c1,f1⟩:=live_of HB2 1 (.int .u32 (hv 1)) rfl
    obtain ⟨d1,e1⟩:=live_of HA.out 1 _ rfl
    obtain ⟨c2,f2⟩:=live_of HB2 2 (.int .u32 (hv 2)) rfl
    obtain ⟨d2,e2⟩:=live_of HA.out 2 _ rfl
    obtain ⟨c3,f3⟩:=live_of HB2 3 (.int .u32 (hv 3)) rfl
    obtain ⟨d3,e3⟩:=live_of HA.out 3 _ rfl
    obtain ⟨c4,f4⟩:=live_of HB2 4 (.int .u32 (hv 4)) rfl
    obtain ⟨d4,e4⟩:=live_of HA.out 4 _ rfl
    obtain ⟨c5,f5⟩:=live_of HB2 5 (.int .u32 (hv 5)) rfl
    obtain ⟨d5,e5⟩:=live_of HA.out 5 _ rfl
    obtain ⟨c6,f6⟩:=live_of HB2 6 (.int .u32 (hv 6)) rfl
    obtain ⟨d6,e6⟩:=live_of HA.out 6 _ rfl
    obtain ⟨c7,f7⟩:=live_of HB2 7 (.int .u32 (hv 7)) rfl
    obtain ⟨d7,e7⟩:=live_of HA.out 7 _ rfl
    obtain ⟨c8,f8⟩:=live_of HB2 8 (.int .u32 (hv 8)) rfl
    obtain ⟨d8,e8⟩:=live_of HA.out 8 _ rfl
    obtain ⟨c9,f9⟩:=live_of HB2 9 (.int .u32 (hv 9)) rfl
    obtain ⟨d9,e9⟩:=live_of HA.out 9 _ rfl
    obtain ⟨c10,f10⟩:=live_of HB2 10 (.int .u32 (hv 10)) rfl
    obtain ⟨d10,e10⟩:=live_of HA.out 10 _ rfl
    obtain ⟨c11,f11⟩:=live_of HB2 11 (.int .u32 (hv 11)) rfl
    obtain ⟨d11,e11⟩:=live_of HA.out 11 _ rfl
    obtain ⟨c12,f12⟩:=live_of HB2 12 (.int .u32 (hv 12)) rfl
    obtain ⟨d12,e12⟩:=live_of HA.out 12 _ rfl
    obtain ⟨c13,f13⟩:=live_of HB2 13 (.int .u32 (hv 13)) rfl
    obtain ⟨d13,e13⟩:=live_of HA.out 13 _ rfl
    obtain ⟨c14,f14⟩:=live_of HB2 14 (.int .u32 (hv 14)) rfl
    obtain ⟨d14,e14⟩:=live_of HA.out 14 _ rfl
    obtain ⟨c15,f15⟩:=live_of HB2 15 (.int .u32 (hv 15)) rfl
    obtain ⟨d15,e15⟩:=live_of HA.out 15 _ rfl
    have m1 : ¬ (k : Int) < 16:=by omega
    clear hk16 HB HB2
    go_wp2_with fail
    refine bodyPost_ret (v:=.agg (hvA 16)) (by simp [results,Tryz.results139,go_sem,d0,e0,d1,e1,d2,e2,d3,e3,d4,e4,d5,e5,d6,e6,d7,e7,d8,e8,d9,e9,d10,e10,d11,e11,d12,e12,d13,e13,d14,e14,d15,e15,hvA]) rfl ?_
    exact ⟨rfl,((((((((((((((((hbel.setCell (Nat.le_refl _) _).setCell (Nat.le_refl _) _).setCell (Nat.le_refl _) _).setCell (Nat.le_refl _) _).setCell (Nat.le_refl _) _).setCell (Nat.le_refl _) _).setCell (Nat.le_refl _) _).setCell (Nat.le_refl _) _).setCell (Nat.le_refl _) _).setCell (Nat.le_refl _) _).setCell (Nat.le_refl _) _).setCell (Nat.le_refl _) _).setCell (Nat.le_refl _) _).setCell (Nat.le_refl _) _).setCell (Nat.le_refl _) _).setCell (Nat.le_refl _) _)⟩
def nibI (s : Int) : Int:=bits .xor .u32 (s * 16 % 4294967296) (hv (s / 268435456).toNat)
def crcI (s : Int) (c : UInt8) : Int:=nibI (nibI (bits .xor .u32 s ((c.toNat : Int) * 16777216)))
theorem nibI_bd (s : Int) : 0 ≤ nibI s ∧ nibI s < 4294967296:=bits_u32 _ _ _
theorem crcI_bd (s : Int) (c : UInt8) : 0 ≤ crcI s c ∧ crcI s c < 4294967296:=nibI_bd _
def crcF (s : Int) (l : List UInt8) : Int:=l.foldl crcI s
theorem crcF_bd : ∀ (l : List UInt8) (s : Int),0 ≤ s ∧ s < 4294967296 → 0 ≤ crcF s l ∧ crcF s l < 4294967296
 | [],s,h=>h
 | c :: r,s,h=>crcF_bd r (crcI s c) (crcI_bd s c)
theorem crcF_append (s : Int) (a b : List UInt8) : crcF s (a ++ b) = crcF (crcF s a) b:=List.foldl_append ..
theorem hvA_val (k : Nat) (hk : k < 16) : (hvA 16)[k]? = some (.int .u32 (hv k)):=by
 match k,hk with
 | 0,_=>rfl
 | 1,_=>rfl
 | 2,_=>rfl
 | 3,_=>rfl
 | 4,_=>rfl
 | 5,_=>rfl
 | 6,_=>rfl
 | 7,_=>rfl
 | 8,_=>rfl
 | 9,_=>rfl
 | 10,_=>rfl
 | 11,_=>rfl
 | 12,_=>rfl
 | 13,_=>rfl
 | 14,_=>rfl
 | 15,_=>rfl
 | n + 16,h=>exact absurd h (by omega)
theorem scells_at (l : List ByteArray) (k : Nat) (t : ByteArray) (h : l[k]? = some t) : (scells l)[k]? = some (.string t):=by unfold scells;rw [List.getElem?_map,h];rfl
set_option maxRecDepth 100000 in
theorem sadd_any (s0 : Int) (xs : List ByteArray) (rv : Value) (w : World) (h0 : 0 ≤ s0 ∧ s0 < 4294967296) (hrow : Row w rv xs.length (scells xs)) (hs : ∀ t ∈ xs,t.size ≤ 1073741824) (hn : xs.length ≤ 1073741824) :
 Calls Tryz.prog 118 #[.int .u32 s0,rv] w fun e w'=>e = .returned (.int .u32 (crcF s0 (xs.map bl).flatten)) ∧ Below w.heap.size w w':=by
 obtain ⟨av,cap,rfl,hc⟩:=hrow
 have k1:=fun w=>halves_any w
 obtain ⟨n,hn'⟩ : ∃ n,n = xs.length:=⟨_,rfl⟩
 rw [← hn'] at hn ⊢
 obtain ⟨RES,hRES⟩ : ∃ RES,RES = crcF s0 (xs.map bl).flatten:=⟨_,rfl⟩
 rw [← hRES]
 have HSS:=Lib.hid hs
 have e16 : hvA 16 = #[.int .u32 (hv 0),.int .u32 (hv 1),.int .u32 (hv 2),.int .u32 (hv 3),.int .u32 (hv 4),.int .u32 (hv 5),.int .u32 (hv 6),.int .u32 (hv 7),.int .u32 (hv 8),.int .u32 (hv 9),.int .u32 (hv 10),.int .u32 (hv 11),.int .u32 (hv 12),.int .u32 (hv 13),.int .u32 (hv 14),.int .u32 (hv 15)]:=rfl
 rw [e16] at k1
 have K1:=Lib.hid k1
 have HC:=Lib.hid hc
 have HN:=Lib.hid hn'
 have HR:=Lib.hid hRES
 clear k1 hc hn' hRES
 clear hs e16
 go_enter Tryz.func118,Tryz.ntmps118
 go_wp2_with (go_at_call 139;go_loud (with_reducible refine (K1.out _).mono ?_);go_loud (rintro e w1 ⟨rfl,hb1⟩))
 have hbA:=bal hb1 (.cells #[.int .u32 (hv 0),.int .u32 (hv 1),.int .u32 (hv 2),.int .u32 (hv 3),.int .u32 (hv 4),.int .u32 (hv 5),.int .u32 (hv 6),.int .u32 (hv 7),.int .u32 (hv 8),.int .u32 (hv 9),.int .u32 (hv 10),.int .u32 (hv 11),.int .u32 (hv 12),.int .u32 (hv 13),.int .u32 (hv 14),.int .u32 (hv 15)] 187)
 have A1 : (w1.alloc (.cells #[.int .u32 (hv 0),.int .u32 (hv 1),.int .u32 (hv 2),.int .u32 (hv 3),.int .u32 (hv 4),.int .u32 (hv 5),.int .u32 (hv 6),.int .u32 (hv 7),.int .u32 (hv 8),.int .u32 (hv 9),.int .u32 (hv 10),.int .u32 (hv 11),.int .u32 (hv 12),.int .u32 (hv 13),.int .u32 (hv 14),.int .u32 (hv 15)] 187)).heap[w1.heap.size]? = some (.cells (hvA 16) 187 (0,0)):=heap_alloc_new w1 (.cells #[.int .u32 (hv 0),.int .u32 (hv 1),.int .u32 (hv 2),.int .u32 (hv 3),.int .u32 (hv 4),.int .u32 (hv 5),.int .u32 (hv 6),.int .u32 (hv 7),.int .u32 (hv 8),.int .u32 (hv 9),.int .u32 (hv 10),.int .u32 (hv 11),.int .u32 (hv 12),.int .u32 (hv 13),.int .u32 (hv 14),.int .u32 (hv 15)] 187)
 generalize w1.alloc (.cells #[.int .u32 (hv 0),.int .u32 (hv 1),.int .u32 (hv 2),.int .u32 (hv 3),.int .u32 (hv 4),.int .u32 (hv 5),.int .u32 (hv 6),.int .u32 (hv 7),.int .u32 (hv 8),.int .u32 (hv 9),.int .u32 (hv 10),.int .u32 (hv 11),.int .u32 (hv 12),.int .u32 (hv 13),.int .u32 (hv 14),.int .u32 (hv 15)] 187) = W1 at *
 have HTAB : Hid (∀ q : Nat,q < 16 → W1.cell? ⟨w1.heap.size,q,none⟩ = some (.int .u32 (hv q))):=Lib.hid fun q hq=>(live_of A1 q _ (hvA_val q hq)).1
 have HBA:=Lib.hid hbA
 clear hbA
 clear A1 hb1
 go_loop [0,12] (fun sv iv=>∃ k : Nat,sv = .int .u32 (crcF s0 ((xs.take k).map bl).flatten) ∧ iv = .int .i64 (k : Int) ∧ k ≤ n) (fun _ iv=>n - (intOf iv).toNat)
 case atStart=>exact ⟨0,rfl,rfl,Nat.zero_le _⟩
 case round=>
  obtain ⟨k,rfl,rfl,hk⟩:=hrel
  have hbd:=crcF_bd ((xs.take k).map bl).flatten s0 h0
  by_cases hlt : k < n
  · obtain ⟨t,ht⟩:=at_some xs k (by rw [← HN.out];exact hlt)
    obtain ⟨g,o,rfl,d0⟩:=HC.out k _ (scells_at xs k t ht)
    replace d0:=kc HBA.out d0
    have hts:=HSS.out t (List.mem_of_getElem? ht)
    have hstep : crcF s0 ((xs.take (k + 1)).map bl).flatten = crcF (crcF s0 ((xs.take k).map bl).flatten) (bl t):=by
     rw [List.take_add_one,ht]
     simp [crcF_append]
    have HST:=Lib.hid hstep
    have HTL : Hid ((bl t).length = t.size):=bl_length t
    generalize crcF s0 ((xs.take k).map bl).flatten = s1 at *
    have m0 : (0 : Int) ≤ (k : Int):=by omega
    have m1 : (k : Int) < (n : Int):=by omega
    clear hstep ht
    go_wp2_with fail
    go_loop [0,18] (fun sv jv=>∃ j : Nat,sv = .int .u32 (crcF s1 ((bl t).take j)) ∧ jv = .int .i64 (j : Int) ∧ j ≤ t.size) (fun _ jv=>t.size - (intOf jv).toNat)
    case atStart=>exact ⟨0,rfl,rfl,Nat.zero_le _⟩
    case round=>
     obtain ⟨j,rfl,rfl,hj⟩:=hrel
     by_cases hl2 : j < t.size
     · obtain ⟨b,hb⟩:=at_some (bl t) j (by rw [HTL.out];exact hl2)
       have X : ∀ h,t[j]'h = b:=atB_of t j b hb
       have hs2 : crcF s1 ((bl t).take (j + 1)) = crcI (crcF s1 ((bl t).take j)) b:=by
        rw [List.take_add_one,hb]
        simp [crcF_append,crcF]
       have hxb:=crcF_bd ((bl t).take j) s1 hbd
       have HS2:=Lib.hid hs2
       generalize crcF s1 ((bl t).take j) = x at *
       have hbl:=b.toNat_lt
       have j0 : (0 : Int) ≤ (j : Int):=by omega
       have j1 : (j : Int) < (t.size : Int):=by omega
       have b1:=bits_u32 .xor x ((b.toNat : Int) * 16777216)
       obtain ⟨y1,hy1⟩ : ∃ y,bits .xor .u32 x ((b.toNat : Int) * 16777216) = y:=⟨_,rfl⟩
       rw [hy1] at b1
       obtain ⟨q1,hq1⟩ : ∃ q : Nat,y1 / 268435456 = (q : Int):=⟨(y1 / 268435456).toNat,by omega⟩
       have l1 : q1 < 16:=by omega
       have e1:=HTAB.out q1 l1
       have b2:=bits_u32 .xor (y1 * 16 % 4294967296) (hv q1)
       obtain ⟨y2,hy2⟩ : ∃ y,bits .xor .u32 (y1 * 16 % 4294967296) (hv q1) = y:=⟨_,rfl⟩
       rw [hy2] at b2
       obtain ⟨q2,hq2⟩ : ∃ q : Nat,y2 / 268435456 = (q : Int):=⟨(y2 / 268435456).toNat,by omega⟩
       have l2 : q2 < 16:=by omega
       have e2:=HTAB.out q2 l2
       have n1 : nibI y1 = y2:=by unfold nibI;rw [hq1,Int.toNat_natCast,hy2]
       have n2 : nibI y2 = bits .xor .u32 (y2 * 16 % 4294967296) (hv q2):=by unfold nibI;rw [hq2,Int.toNat_natCast]
       have HC3 : Hid (crcI x b = bits .xor .u32 (y2 * 16 % 4294967296) (hv q2)):=by unfold crcI;rw [hy1,n1,n2];exact Lib.hid rfl
       have i1 : (0 : Int) ≤ (q1 : Int):=by omega
       have i2 : (q1 : Int) < 16:=by omega
       have i3 : (0 : Int) ≤ (q2 : Int):=by omega
       have i4 : (q2 : Int) < 16:=by omega
       clear hs2 hb n1 n2 b1 b2 hxb l1 l2
       go_wp2_with fail
       go_round
       case rel=>exact ⟨j + 1,by rw [HS2.out,HC3.out],by go_num,by omega⟩
       case measure=>simp [intOf];omega
     · have hj2 : j = t.size:=by omega
       have hx : crcF s1 ((bl t).take j) = crcF s1 (bl t):=by rw [List.take_of_length_le (by rw [HTL.out];omega)]
       rw [hx]
       have m2 : ¬ (j : Int) < (t.size : Int):=by omega
       clear hx hj2
       go_wp2_with fail
       exact ⟨⟨k + 1,by rw [HST.out],by go_num,by omega⟩,by simp [intOf];omega⟩
  · have hx : crcF s0 ((xs.take k).map bl).flatten = RES:=by rw [List.take_of_length_le (by have:=HN.out;omega)];exact HR.out.symm
    rw [hx]
    have m1 : ¬ (k : Int) < (n : Int):=by omega
    clear hx
    go_wp2_with fail
    go_ret
    exact ⟨rfl,HBA.out⟩
theorem sof_any (xs : List ByteArray) (rv : Value) (w : World) (hrow : Row w rv xs.length (scells xs)) (hs : ∀ t ∈ xs,t.size ≤ 1073741824) (hn : xs.length ≤ 1073741824) :
 Calls Tryz.prog 97 #[rv] w fun e w'=>e = .returned (.int .u32 (crcF 0 (xs.map bl).flatten)) ∧ Below w.heap.size w w':=by
 have k1:=sadd_any 0 xs rv w (by omega) hrow hs hn
 generalize crcF 0 (xs.map bl).flatten = RES at *
 have K1:=Lib.hid k1
 clear k1
 clear hrow hs hn
 go_enter Tryz.func97,Tryz.ntmps97
 go_wp2_with (go_at_call 118;go_loud (with_reducible refine K1.out.mono ?_);go_loud (rintro e w1 ⟨rfl,hb1⟩))
 go_ret
 exact ⟨rfl,hb1⟩
theorem sbytes_any (s : Int) (w : World) (h : 0 ≤ s ∧ s < 4294967296) : Calls Tryz.prog 61 #[.int .u32 s] w fun e w'=>e = .returned (.string ⟨(leL s 4).toArray⟩) ∧ Below w.heap.size w w':=by
 have k1:=fun w=>osmall_any s 4 w h.1 (by omega)
 rw [widthOf4] at k1
 have hw : IntKind.u64.wrap s = s:=by rw [IntKind.wrap_u64];omega
 have K1:=Lib.hid k1
 clear k1
 go_enter Tryz.func61,Tryz.ntmps61
 go_wp2_with (go_at_call 96;go_loud (with_reducible refine (K1.out _).mono ?_);go_loud (rintro e w1 ⟨rfl,hb1⟩))
 go_ret
 exact ⟨rfl,hb1⟩
theorem totL_take (l : List UInt8) (k : Nat) (b : UInt8) (h : l[k]? = some b) : totL (l.take (k + 1)) = totL (l.take k) + b.toNat:=by
 rw [List.take_add_one,h,totL_append]
 simp [totL]
theorem totL_le (l : List UInt8) : totL l ≤ 255 * l.length:=by
 induction l with
 | nil=>simp [totL]
 | cons b r ih=>
  rw [totL_cons,List.length_cons]
  have:=b.toNat_lt
  omega
theorem gtotal_any (s : ByteArray) (w : World) (hs : s.size ≤ 1073741824) : Calls Tryz.prog 72 #[.string s] w fun e w'=>e = .returned (.int .i64 (totL (bl s))) ∧ w = w':=by
 have HL : Hid ((bl s).length = s.size):=bl_length s
 go_enter Tryz.func72,Tryz.ntmps72
 go_wp2_with fail
 go_loop [3,7] (fun nv iv=>∃ k : Nat,nv = .int .i64 ((totL ((bl s).take k) : Nat) : Int) ∧ iv = .int .i64 (k : Int) ∧ k ≤ s.size) (fun _ iv=>s.size - (intOf iv).toNat)
 case atStart=>exact ⟨0,by simp [totL],rfl,Nat.zero_le _⟩
 case round=>
  obtain ⟨k,rfl,rfl,hk⟩:=hrel
  by_cases hlt : k < s.size
  · obtain ⟨b,hb⟩:=at_some (bl s) k (by rw [HL.out];exact hlt)
    have X : ∀ h,s[k]'h = b:=atB_of s k b hb
    have hst:=totL_take (bl s) k b hb
    have hle:=totL_le ((bl s).take k)
    rw [List.length_take] at hle
    have hbl:=b.toNat_lt
    generalize totL ((bl s).take k) = t at *
    have HST:=Lib.hid hst
    have j0 : (0 : Int) ≤ (k : Int):=by omega
    have j1 : (k : Int) < (s.size : Int):=by omega
    have ht : t ≤ 300000000000:=by omega
    have hwr : IntKind.i64.wrap ((t : Int) + b.toNat) = (t : Int) + b.toNat:=wi64 _ (by omega) (by omega)
    clear hst hb hle
    go_wp2_with fail
    go_round
    case rel=>exact ⟨k + 1,by rw [HST.out,Int.natCast_add],by go_num,by omega⟩
    case measure=>simp [intOf];omega
  · have hx : totL ((bl s).take k) = totL (bl s):=by rw [List.take_of_length_le (by rw [HL.out];omega)]
    rw [hx]
    have m1 : ¬ (k : Int) < (s.size : Int):=by omega
    clear hx
    go_wp2_with fail
    go_ret
    exact ⟨rfl,rfl⟩
def gV (p : PG) : Value:=.agg #[.int .u8 p.fl.toNat,.int .u64 p.po,.int .u32 p.se,.int .u32 p.nu,.string p.la,.string p.bo]
theorem gcheck_any (p : PG) (w : World) (hl : p.la.size ≤ 1073741824) (hb : p.bo.size ≤ 1073741824) : Calls Tryz.prog 37 #[gV p] w fun e w'=>e = .returned (.agg #[.int .i64 (gcheckM p),.int .i64 0]) ∧ Below w.heap.size w w':=by
 have k1:=fun w=>gtotal_any p.la w hl
 have hm : gcheckM p = if 255 < p.la.size then 4 else if p.bo.size ≠ totL (bl p.la) then 5 else 0:=rfl
 rw [hm]
 clear hm
 unfold gV
 obtain ⟨fl,po,se,nu,la,bo⟩:=p
 simp only at k1 hl hb ⊢
 generalize totL (bl la) = t at *
 generalize (fl.toNat : Int) = f at *
 obtain ⟨W,hW⟩ : ∃ W,W = (w.alloc (.cells #[.int .u8 f,.int .u64 po,.int .u32 se,.int .u32 nu,.string la,.string bo] 27)).alloc (.cells #[.int .i64 0,.int .i64 0] 54):=⟨_,rfl⟩
 have hs1 : (w.alloc (.cells #[.int .u8 f,.int .u64 po,.int .u32 se,.int .u32 nu,.string la,.string bo] 27)).heap.size = w.heap.size + 1:=World.size_alloc _ _
 have P : W.heap[w.heap.size]? = some (.cells #[.int .u8 f,.int .u64 po,.int .u32 se,.int .u32 nu,.string la,.string bo] 27 (0,0)):=by
  rw [hW];exact (heap_alloc_old _ _ (by rw [hs1];omega)).trans (heap_alloc_new _ _)
 have F : W.heap[w.heap.size + 1]? = some (.cells #[.int .i64 0,.int .i64 0] 54 (0,0)):=by
  rw [hW,← hs1];exact heap_alloc_new _ _
 have hbW : Below w.heap.size w W:=by rw [hW];exact bal (bal (Below.refl _ _) _) _
 have c4:=(live_of P 4 _ rfl).1
 have c5:=(live_of P 5 _ rfl).1
 obtain ⟨q0,q0'⟩:=live_of F 0 _ rfl
 obtain ⟨q1,q1'⟩:=live_of F 1 _ rfl
 have K1:=Lib.hid k1
 have HBW:=Lib.hid hbW
 have F0:=Lib.hid F
 clear k1 hbW F
 clear hs1 P
 by_cases h1 : 255 < la.size
 · rw [if_pos h1]
   have g1 : (la.size : Int) > 255:=by omega
   clear h1
   go_enter Tryz.func37,Tryz.ntmps37
   go_upto_region 1 with fail
   rw [← hW]
   clear hW
   go_wp2_with fail
   refine bodyPost_ret (v:=.agg #[.int .i64 4,.int .i64 0]) (by simp [results,Tryz.results37,go_sem,q0,q1,q0',q1']) rfl ?_
   exact ⟨rfl,(HBW.out.setCell (by simp) _).setCell (by simp) _⟩
 · rw [if_neg h1]
   have g1 : ¬ (la.size : Int) > 255:=by omega
   clear h1
   go_enter Tryz.func37,Tryz.ntmps37
   go_upto_region 1 with fail
   rw [← hW]
   clear hW
   go_wp2_with fail
   go_region_held3 (fun w'=>w'.cell? ⟨w.heap.size,4,none⟩ = some (.string la) ∧ w'.cell? ⟨w.heap.size,5,none⟩ = some (.string bo)) (first | exact ⟨c4,c5⟩ | go_keep)
    (first
     | (go_at_call 72;go_loud (refine (K1.out _).mono ?_);go_loud (rintro e1 w1 ⟨rfl,rfl⟩)))
   by_cases h2 : bo.size = t
   · have H2:=Lib.hid h2
     have g2 : ((bo.size : Int) != (t : Int)) = false:=by simp;omega
     clear h2
     go_wp2_with fail
     refine bodyPost_ret (v:=.agg #[.int .i64 0,.int .i64 0]) (by simp [results,Tryz.results37,go_sem,q0,q1,q0',q1']) rfl ?_
     exact ⟨rfl,((HBW.out.setCell (by simp) _).setCell (by simp) _).drew⟩
   · have H2:=Lib.hid h2
     have g2 : ((bo.size : Int) != (t : Int)) = true:=by simp;omega
     clear h2
     go_wp2_with fail
     refine bodyPost_ret (v:=.agg #[.int .i64 5,.int .i64 0]) (by simp [results,Tryz.results37,go_sem,q0,q1,q0',q1']) rfl ?_
     exact ⟨rfl,((HBW.out.setCell (by simp) _).setCell (by simp) _).drew⟩
def gpartsB (p : PG) (four : ByteArray) : List ByteArray:=[oggS,zeroB,⟨#[p.fl]⟩,⟨(leL p.po 8).toArray⟩,⟨(leL p.se 4).toArray⟩,⟨(leL p.nu 4).toArray⟩,four,⟨#[UInt8.ofNat p.la.size]⟩,p.la,p.bo]
theorem gpartsB_flat (p : PG) (four : ByteArray) : ((gpartsB p four).map bl).flatten = gpartsL p (bl four):=by
 unfold gpartsB gpartsL
 have h0 : bl oggS = [79,103,103,83]:=rfl
 have h1 : bl zeroB = [0]:=rfl
 have h2 : bl ⟨#[p.fl]⟩ = [p.fl]:=rfl
 have h3 : bl ⟨#[UInt8.ofNat p.la.size]⟩ = [UInt8.ofNat p.la.size]:=rfl
 simp only [List.map_cons,List.map_nil,List.flatten_cons,List.flatten_nil,h0,h1,h2,h3,blL,List.append_nil,List.append_assoc]
set_option maxRecDepth 100000 in
theorem gparts_any (p : PG) (four : ByteArray) (w : World) (hl : p.la.size ≤ 1073741824) (hp : p.po < 18446744073709551616) (hs : p.se < 4294967296) (hn : p.nu < 4294967296) :
 Calls Tryz.prog 59 #[gV p,.string four] w fun e w'=>∃ v,e = .returned v ∧ w'.ownsRow w.heap.size 9 1 v 10 (scells (gpartsB p four)) ∧ Below w.heap.size w w':=by
 have hfl:=p.fl.toNat_lt
 have kb1 : ∀ (w : World),Calls Tryz.prog 95 #[.int .u64 (p.fl.toNat : Int),.int .i64 1] w fun e w'=>e = .returned (.string ⟨#[p.fl]⟩) ∧ Below w.heap.size w w':=by
  intro w
  have:=big_any (p.fl.toNat : Int) 1 w (by omega) (by omega)
  rw [big_1,UInt8.ofNat_toNat] at this
  exact this
 have kb2 : ∀ (w : World),Calls Tryz.prog 95 #[.int .u64 (p.la.size : Int),.int .i64 1] w fun e w'=>e = .returned (.string ⟨#[UInt8.ofNat p.la.size]⟩) ∧ Below w.heap.size w w':=by
  intro w
  have:=big_any (p.la.size : Int) 1 w (by omega) (by omega)
  rw [big_1] at this
  exact this
 have ks1 : ∀ (w : World),Calls Tryz.prog 96 #[.int .u64 (p.po : Int),.int .i64 8] w fun e w'=>e = .returned (.string ⟨(leL p.po 8).toArray⟩) ∧ Below w.heap.size w w':=fun w=>by
  have:=osmall_any (p.po : Int) 8 w (by omega) (by omega)
  rw [show widthOf 8 = 8 by decide] at this
  exact this
 have ks2 : ∀ (w : World),Calls Tryz.prog 96 #[.int .u64 (p.se : Int),.int .i64 4] w fun e w'=>e = .returned (.string ⟨(leL p.se 4).toArray⟩) ∧ Below w.heap.size w w':=fun w=>by
  have:=osmall_any (p.se : Int) 4 w (by omega) (by omega)
  rw [widthOf4] at this
  exact this
 have ks3 : ∀ (w : World),Calls Tryz.prog 96 #[.int .u64 (p.nu : Int),.int .i64 4] w fun e w'=>e = .returned (.string ⟨(leL p.nu 4).toArray⟩) ∧ Below w.heap.size w w':=fun w=>by
  have:=osmall_any (p.nu : Int) 4 w (by omega) (by omega)
  rw [widthOf4] at this
  exact this
 unfold gV gpartsB
 obtain ⟨fl,po,se,nu,la,bo⟩:=p
 simp only at kb1 kb2 ks1 ks2 ks3 hl hp hs hn hfl ⊢
 have hw1 : IntKind.u64.wrap (fl.toNat : Int) = (fl.toNat : Int):=by rw [IntKind.wrap_u64];omega
 have hw2 : IntKind.u64.wrap (se : Int) = se:=by rw [IntKind.wrap_u64];omega
 have hw3 : IntKind.u64.wrap (nu : Int) = nu:=by rw [IntKind.wrap_u64];omega
 have hw4 : IntKind.u64.wrap (la.size : Int) = la.size:=by rw [IntKind.wrap_u64];omega
 generalize (⟨#[fl]⟩ : ByteArray) = S1 at *
 generalize (⟨#[UInt8.ofNat la.size]⟩ : ByteArray) = S2 at *
 generalize (⟨(leL po 8).toArray⟩ : ByteArray) = S3 at *
 generalize (⟨(leL se 4).toArray⟩ : ByteArray) = S4 at *
 generalize (⟨(leL nu 4).toArray⟩ : ByteArray) = S5 at *
 generalize (fl.toNat : Int) = f at *
 obtain ⟨W,hW⟩ : ∃ W,W = w.alloc (.cells #[.int .u8 f,.int .u64 po,.int .u32 se,.int .u32 nu,.string la,.string bo] 27):=⟨_,rfl⟩
 have P : W.heap[w.heap.size]? = some (.cells #[.int .u8 f,.int .u64 po,.int .u32 se,.int .u32 nu,.string la,.string bo] 27 (0,0)):=by
  rw [hW];exact heap_alloc_new _ _
 have hbW : Below w.heap.size w W:=by rw [hW];exact bal (Below.refl _ _) _
 have KSA : Hid (∀ wz,Below W.heap.size W wz → wz.cell? ⟨w.heap.size,0,none⟩ = some (.int .u8 f) ∧ wz.cell? ⟨w.heap.size,1,none⟩ = some (.int .u64 po) ∧ wz.cell? ⟨w.heap.size,2,none⟩ = some (.int .u32 se) ∧ wz.cell? ⟨w.heap.size,3,none⟩ = some (.int .u32 nu) ∧ wz.cell? ⟨w.heap.size,4,none⟩ = some (.string la) ∧ wz.cell? ⟨w.heap.size,5,none⟩ = some (.string bo)):=Lib.hid fun wz hb=>by
  have hP:=(hb.block _ (Array.getElem?_eq_some_iff.1 P).1).trans P
  exact ⟨(live_of hP 0 _ rfl).1,(live_of hP 1 _ rfl).1,(live_of hP 2 _ rfl).1,(live_of hP 3 _ rfl).1,(live_of hP 4 _ rfl).1,(live_of hP 5 _ rfl).1⟩
 have hbk:=Below.refl W.heap.size W
 have KB1:=Lib.hid kb1
 have KB2:=Lib.hid kb2
 have KS1:=Lib.hid ks1
 have KS2:=Lib.hid ks2
 have KS3:=Lib.hid ks3
 have HBW:=Lib.hid hbW
 clear kb1 kb2 ks1 ks2 ks3 hbW
 clear P hl hp hs hn hfl
 go_enter Tryz.func59,Tryz.ntmps59
 go_upto_region 1 with fail
 rw [← hW]
 clear hW
 go_region_held3 (fun w'=>w'.cell? ⟨w.heap.size,0,none⟩ = some (.int .u8 f) ∧ w'.cell? ⟨w.heap.size,1,none⟩ = some (.int .u64 po) ∧ w'.cell? ⟨w.heap.size,2,none⟩ = some (.int .u32 se) ∧ w'.cell? ⟨w.heap.size,3,none⟩ = some (.int .u32 nu) ∧ w'.cell? ⟨w.heap.size,4,none⟩ = some (.string la) ∧ w'.cell? ⟨w.heap.size,5,none⟩ = some (.string bo))
  (first | (with_reducible refine KSA.out _ ?_;with_reducible first | exact hbk | exact hbk.drew | exact bal hbk _ | exact bal hbk.drew _) | go_keep)
  (first
   | (go_at_call 95;go_loud (first | with_reducible refine (KB1.out _).mono ?_ | with_reducible refine (KB2.out _).mono ?_);go_loud (rintro e1 w1 ⟨rfl,hbx⟩);go_loud (replace hbk : Below W.heap.size W w1:=by with_reducible first | exact bt hbk hbx | exact bt hbk.drew hbx);go_loud (clear hbx))
   | (go_at_call 96;go_loud (first | with_reducible refine (KS1.out _).mono ?_ | with_reducible refine (KS2.out _).mono ?_ | with_reducible refine (KS3.out _).mono ?_);go_loud (rintro e1 w1 ⟨rfl,hbx⟩);go_loud (replace hbk : Below W.heap.size W w1:=by with_reducible first | exact bt hbk hbx | exact bt hbk.drew hbx);go_loud (clear hbx)))
 go_wp2_with fail
 go_ret
 have ho : (w1.alloc (.cells #[.string ⟨#[79,103,103,83]⟩,.string ⟨#[0]⟩,.string S1,.string S3,.string S4,.string S5,.string four,.string S2,.string la,.string bo] 9)).ownsRow w1.heap.size 9 1 (.slice (some ⟨w1.heap.size,0,none⟩) 10 10) 10 (scells [oggS,zeroB,S1,S3,S4,S5,four,S2,la,bo]):=
  World.ownsRow_lit (size:=1) (base:=w1.heap.size) w1 #[.string ⟨#[79,103,103,83]⟩,.string ⟨#[0]⟩,.string S1,.string S3,.string S4,.string S5,.string four,.string S2,.string la,.string bo] 10 (Nat.le_refl _) (by unfold maxLen;omega) rfl
 have hz:=(HBW.out.trans (hbk.mono HBW.out.size)).size
 exact ⟨_,rfl,orow_mono ho hz,bal (HBW.out.trans (hbk.mono HBW.out.size)) _⟩
def smG (p : PG) : Prop:=p.la.size ≤ 1073741824 ∧ p.bo.size ≤ 1073741824 ∧ p.po < 18446744073709551616 ∧ p.se < 4294967296 ∧ p.nu < 4294967296
def crcN (l : List UInt8) : Nat:=(crcF 0 l).toNat
theorem crcN_lt (l : List UInt8) : crcN l < 4294967296:=by
 have:=crcF_bd l 0 (by omega)
 unfold crcN
 omega
theorem crcN_int (l : List UInt8) : ((crcN l : Nat) : Int) = crcF 0 l:=by
 have:=crcF_bd l 0 (by omega)
 unfold crcN
 omega
theorem gparts_sm {p : PG} (h : smG p) (four : ByteArray) (hf : four.size ≤ 1000) : ∀ t ∈ gpartsB p four,t.size ≤ 1073741824:=by
 obtain ⟨h1,h2,_⟩:=h
 intro t ht
 simp only [gpartsB,List.mem_cons,List.not_mem_nil,or_false] at ht
 rcases ht with rfl | rfl | rfl | rfl | rfl | rfl | rfl | rfl | rfl | rfl
 · decide
 · decide
 · show (1 : Nat) ≤ _;decide
 · rw [szL,leL_len];decide
 · rw [szL,leL_len];decide
 · rw [szL,leL_len];decide
 · omega
 · show (1 : Nat) ≤ _;decide
 · exact h1
 · exact h2
theorem gsum_any (p : PG) (w : World) (h : smG p) : Calls Tryz.prog 60 #[gV p] w fun e w'=>e = .returned (.int .u32 (gsumM crcN p : Int)) ∧ Below w.heap.size w w':=by
 have hbe:=bal (Below.refl w.heap.size w) (.cells #[.int .u8 p.fl.toNat,.int .u64 p.po,.int .u32 p.se,.int .u32 p.nu,.string p.la,.string p.bo] 27)
 have k1:=fun w=>gparts_any p ⟨#[0,0,0,0]⟩ w h.1 h.2.2.1 h.2.2.2.1 h.2.2.2.2
 have k2 : ∀ (v : Value) (w : World),Row w v 10 (scells (gpartsB p ⟨#[0,0,0,0]⟩)) → Calls Tryz.prog 97 #[v] w fun e w'=>e = .returned (.int .u32 (gsumM crcN p : Int)) ∧ Below w.heap.size w w':=by
  intro v w hr
  have:=sof_any (gpartsB p ⟨#[0,0,0,0]⟩) v w hr (gparts_sm h _ (by decide)) (by show 10 ≤ _;decide)
  rw [gpartsB_flat] at this
  unfold gsumM
  rw [crcN_int]
  exact this
 obtain ⟨c0,_⟩:=Live.fresh w #[.int .u8 p.fl.toNat,.int .u64 p.po,.int .u32 p.se,.int .u32 p.nu,.string p.la,.string p.bo] 27 0 _ rfl
 obtain ⟨c1,_⟩:=Live.fresh w #[.int .u8 p.fl.toNat,.int .u64 p.po,.int .u32 p.se,.int .u32 p.nu,.string p.la,.string p.bo] 27 1 _ rfl
 obtain ⟨c2,_⟩:=Live.fresh w #[.int .u8 p.fl.toNat,.int .u64 p.po,.int .u32 p.se,.int .u32 p.nu,.string p.la,.string p.bo] 27 2 _ rfl
 obtain ⟨c3,_⟩:=Live.fresh w #[.int .u8 p.fl.toNat,.int .u64 p.po,.int .u32 p.se,.int .u32 p.nu,.string p.la,.string p.bo] 27 3 _ rfl
 obtain ⟨c4,_⟩:=Live.fresh w #[.int .u8 p.fl.toNat,.int .u64 p.po,.int .u32 p.se,.int .u32 p.nu,.string p.la,.string p.bo] 27 4 _ rfl
 obtain ⟨c5,_⟩:=Live.fresh w #[.int .u8 p.fl.toNat,.int .u64 p.po,.int .u32 p.se,.int .u32 p.nu,.string p.la,.string p.bo] 27 5 _ rfl
 generalize gsumM crcN p = SM at *
 unfold gV at k1 ⊢
 generalize gpartsB p ⟨#[0,0,0,0]⟩ = GP at *
 have K1:=Lib.hid k1
 have K2:=Lib.hid k2
 have HBE:=Lib.hid hbe
 clear k1 k2 hbe
 go_enter Tryz.func60,Tryz.ntmps60
 go_wp2_with (first
  | (go_at_call 59;go_loud (refine (K1.out _).mono ?_);go_loud (rintro e1 w1 ⟨v1,rfl,ho1,hb1⟩);go_loud (have hr1:=row_owns ho1))
  | (go_at_call 97;go_loud (refine (K2.out _ _ hr1).mono ?_);go_loud (rintro e2 w2 ⟨rfl,hb2⟩)))
 go_ret
 first
  | exact ⟨rfl,bt (bt HBE.out hb1) hb2⟩
  | exact ⟨rfl,bt hb1 hb2⟩
set_option maxRecDepth 100000 in
theorem gprint_any (p : PG) (w : World) (hg : gG p) (hb : p.bo.size ≤ 1073741824) : Calls Tryz.prog 29 #[gV p] w fun e w'=>e = .returned (.tuple #[.string ⟨(gprintL crcN p).toArray⟩,.agg #[.int .i64 0,.int .i64 0]]) ∧ Below w.heap.size w w':=by
 have hsm : smG p:=⟨by have:=hg.1;omega,hb,hg.2.2.1,hg.2.2.2.1,hg.2.2.2.2⟩
 have kc0 : ∀ w,Calls Tryz.prog 37 #[gV p] w fun e w'=>e = .returned (.agg #[.int .i64 0,.int .i64 0]) ∧ Below w.heap.size w w':=by
  intro w
  have:=gcheck_any p w hsm.1 hsm.2.1
  rw [(gcheck_iff p).2 ⟨hg.1,hg.2.1⟩] at this
  exact this
 have kbad:=fun w=>bad_any 0 0 w
 have ksum:=fun w=>gsum_any p w hsm
 have kbytes:=fun w=>sbytes_any (gsumM crcN p : Int) w ⟨by omega,by have:=crcN_lt (gpartsL p [0,0,0,0]);unfold gsumM;omega⟩
 have kparts:=fun w=>gparts_any p ⟨(leL (gsumM crcN p) 4).toArray⟩ w hsm.1 hsm.2.2.1 hsm.2.2.2.1 hsm.2.2.2.2
 have hflat : ((gpartsB p ⟨(leL (gsumM crcN p) 4).toArray⟩).map bl).flatten = gprintL crcN p:=by rw [gpartsB_flat,blL];rfl
 have kjoin : ∀ (B : Nat) (v : Value) (w : World),w.ownsRow B 9 1 v 10 (scells (gpartsB p ⟨(leL (gsumM crcN p) 4).toArray⟩)) → Calls Tryz.prog 30 #[v] w fun e w'=>e = .returned (.string ⟨(gprintL crcN p).toArray⟩) ∧ Below w.heap.size w w':=by
  intro B v w ho
  have:=ojoin_any B v (gpartsB p ⟨(leL (gsumM crcN p) 4).toArray⟩) w ho (by simp [gpartsB]) (by show 10 ≤ _;decide) (by rw [hflat,gprint_len];have:=hg.1;omega)
  rw [hflat] at this
  exact this
 generalize (⟨(gprintL crcN p).toArray⟩ : ByteArray) = OUT at *
 generalize gpartsB p ⟨(leL (gsumM crcN p) 4).toArray⟩ = GP at *
 generalize (⟨(leL (gsumM crcN p : Int) 4).toArray⟩ : ByteArray) = FOUR at *
 generalize ((gsumM crcN p : Nat) : Int) = SM at *
 unfold gV at *
 obtain ⟨fl,po,se,nu,la,bo⟩:=p
 simp only at kc0 ksum kparts ⊢
 generalize (fl.toNat : Int) = f at *
 obtain ⟨W,hW⟩ : ∃ W,W = (w.alloc (.cells #[.int .u8 f,.int .u64 po,.int .u32 se,.int .u32 nu,.string la,.string bo] 27)).alloc (.cells #[.int .i64 0,.int .i64 0] 54):=⟨_,rfl⟩
 have hs1 : (w.alloc (.cells #[.int .u8 f,.int .u64 po,.int .u32 se,.int .u32 nu,.string la,.string bo] 27)).heap.size = w.heap.size + 1:=World.size_alloc _ _
 have P : W.heap[w.heap.size]? = some (.cells #[.int .u8 f,.int .u64 po,.int .u32 se,.int .u32 nu,.string la,.string bo] 27 (0,0)):=by
  rw [hW];exact (heap_alloc_old _ _ (by rw [hs1];omega)).trans (heap_alloc_new _ _)
 have F : W.heap[w.heap.size + 1]? = some (.cells #[.int .i64 0,.int .i64 0] 54 (0,0)):=by
  rw [hW,← hs1];exact heap_alloc_new _ _
 have hbW : Below w.heap.size w W:=by rw [hW];exact bal (bal (Below.refl _ _) _) _
 have KSA : Hid (∀ wz,Below W.heap.size W wz → wz.cell? ⟨w.heap.size,0,none⟩ = some (.int .u8 f) ∧ wz.cell? ⟨w.heap.size,1,none⟩ = some (.int .u64 po) ∧ wz.cell? ⟨w.heap.size,2,none⟩ = some (.int .u32 se) ∧ wz.cell? ⟨w.heap.size,3,none⟩ = some (.int .u32 nu) ∧ wz.cell? ⟨w.heap.size,4,none⟩ = some (.string la) ∧ wz.cell? ⟨w.heap.size,5,none⟩ = some (.string bo)):=Lib.hid fun wz hb=>by
  have hP:=(hb.block _ (Array.getElem?_eq_some_iff.1 P).1).trans P
  exact ⟨(live_of hP 0 _ rfl).1,(live_of hP 1 _ rfl).1,(live_of hP 2 _ rfl).1,(live_of hP 3 _ rfl).1,(live_of hP 4 _ rfl).1,(live_of hP 5 _ rfl).1⟩
 have KF : Hid (∀ wz,Below W.heap.size W wz → wz.heap[w.heap.size + 1]? = some (.cells #[.int .i64 0,.int .i64 0] 54 (0,0))):=Lib.hid fun wz hb=>(hb.block _ (Array.getElem?_eq_some_iff.1 F).1).trans F
 obtain ⟨c0,c1,c2,c3,c4,c5⟩:=KSA.out W (Below.refl _ _)
 have hbk:=Below.refl W.heap.size W
 have KC0:=Lib.hid kc0
 have KBAD:=Lib.hid kbad
 have KSUM:=Lib.hid ksum
 have KBYTES:=Lib.hid kbytes
 have KPARTS:=Lib.hid kparts
 have KJOIN:=Lib.hid kjoin
 have HBW:=Lib.hid hbW
 clear kc0 kbad ksum kbytes kparts kjoin hbW
 clear hs1 P F hg hb hsm hflat
 go_enter Tryz.func29,Tryz.ntmps29
 go_wp2_with fail
 rw [← hW]
 clear hW
 go_upto_region 4 with (first
  | (go_at_call 37;go_loud (refine (KC0.out _).mono ?_);go_loud (rintro e1 w1 ⟨rfl,hb1⟩);go_loud (replace hbk:=bal (bt hbk hb1) (.cells #[.int .i64 0,.int .i64 0] 54)))
  | (go_at_call 18;go_loud (refine (KBAD.out _).mono ?_);go_loud (rintro e2 w2 ⟨rfl,hb2⟩);go_loud (replace hbk:=bt hbk hb2)))
 clear c0 c1 c2 c3 c4 c5
 go_region_held3 (fun w'=>w'.cell? ⟨w.heap.size,0,none⟩ = some (.int .u8 f) ∧ w'.cell? ⟨w.heap.size,1,none⟩ = some (.int .u64 po) ∧ w'.cell? ⟨w.heap.size,2,none⟩ = some (.int .u32 se) ∧ w'.cell? ⟨w.heap.size,3,none⟩ = some (.int .u32 nu) ∧ w'.cell? ⟨w.heap.size,4,none⟩ = some (.string la) ∧ w'.cell? ⟨w.heap.size,5,none⟩ = some (.string bo))
  (first | (with_reducible refine KSA.out _ ?_;with_reducible first | exact hbk | exact hbk.drew | exact bal hbk _ | exact bal hbk.drew _) | go_keep)
  (first
   | (go_at_call 60;go_loud (refine (KSUM.out _).mono ?_);go_loud (rintro e3 w3 ⟨rfl,hbx⟩);go_loud (replace hbk : Below W.heap.size W w3:=by with_reducible first | exact bt hbk hbx | exact bt hbk.drew hbx);go_loud (clear hbx))
   | (go_at_call 61;go_loud (refine (KBYTES.out _).mono ?_);go_loud (rintro e4 w4 ⟨rfl,hbx⟩);go_loud (replace hbk : Below W.heap.size W w4:=by with_reducible first | exact bt hbk hbx | exact bt hbk.drew hbx);go_loud (clear hbx))
   | (go_at_call 59;go_loud (refine (KPARTS.out _).mono ?_);go_loud (rintro e5 w5 ⟨v5,rfl,ho5,hbx⟩);go_loud (replace hbk : Below W.heap.size W w5:=by with_reducible first | exact bt hbk hbx | exact bt hbk.drew hbx);go_loud (clear hbx))
   | (go_at_call 30;go_loud (refine (KJOIN.out _ _ _ ho5).mono ?_);go_loud (rintro e6 w6 ⟨rfl,hbx⟩);go_loud (replace hbk : Below W.heap.size W w6:=by with_reducible first | exact bt hbk hbx | exact bt hbk.drew hbx);go_loud (clear hbx);go_loud (obtain ⟨q0,q0'⟩:=live_of (KF.out _ hbk) 0 _ rfl);go_loud (obtain ⟨q1,q1'⟩:=live_of (KF.out _ hbk) 1 _ rfl)))
 go_wp2_with fail
 refine bodyPost_ret (v:=.tuple #[.string OUT,.agg #[.int .i64 0,.int .i64 0]]) (by simp [results,Tryz.results29,go_sem,q0,q1,q0',q1']) rfl ?_
 exact ⟨rfl,((HBW.out.trans (hbk.mono HBW.out.size)).setCell (by simp) _).setCell (by simp) _⟩
theorem u64_or8b (x y : Int) (hx₀ : 0 ≤ x) (hx : x % 256 = 0) (hx₁ : x < 18446744073709551616) (hy₀ : 0 ≤ y) (hy : y < 256) : bits .or .u64 x y = x + y:=
 bits_join .u64 64 (by decide) wrapsu64 8 x y hx₀ hx (by omega) hy₀ hy (by omega)
theorem inx_smallN (w : World) (r : Nat) (x : RS) (n : Nat) (h : InX w r x) (hk : okR x) (hn : n ≤ 8) :
 Calls Tryz.prog 83 #[.pointer (some ⟨r,0,none⟩),.int .i64 n] w fun v w'=>v = .returned (.int .u64 ((smallR x n).2 : Int)) ∧ InX w' r (smallR x n).1 ∧ w.grownBy w' (some r):=by
 have k1 : ∀ w,Calls Tryz.prog 107 #[.int .i64 n] w fun e w'=>e = .returned (.int .i64 n) ∧ w = w':=fun w=>by
  have:=width_any n w
  rw [show widthOf (n : Int) = n from by unfold widthOf;omega] at this
  exact this
 have k2:=fun w h=>inx_take w r x n h hk (by omega) (by omega)
 have hsz : (takeR x n).2.size ≤ n:=takeR_size x n
 unfold smallR
 generalize takeR x n = y at *
 obtain ⟨y,t⟩:=y
 simp only at k2 hsz ⊢
 have HL : Hid ((bl t).length = t.size):=bl_length t
 have K1:=Lib.hid k1
 have K2:=Lib.hid k2
 clear k1 k2
 go_enter Tryz.func83,Tryz.ntmps83
 go_wp2_with (first
  | (go_at_call 107;refine (K1.out _).mono ?_;rintro x w1 ⟨rfl,rfl⟩)
  | (go_at_call 89;refine (K2.out _ h).mono ?_;rintro x w2 ⟨rfl,hi,hg⟩))
 go_loop [6,7] (fun n i=>∃ k : Nat,i = .int .i64 ((k : Int) - 1) ∧ n = .int .u64 (leN ((bl t).drop k) : Int) ∧ k ≤ t.size) (fun _ i=>(intOf i + 1).toNat)
 case atStart=>exact ⟨t.size,rfl,by rw [List.drop_of_length_le (by rw [HL.out];exact Nat.le_refl _)];rfl,Nat.le_refl _⟩
 case round=>
  obtain ⟨k,rfl,rfl,hkt⟩:=hrel
  cases k with
  | zero=>
   have e0 : ((0 : Nat) : Int) - 1 = -1:=by omega
   rw [List.drop_zero]
   go_wp2
   go_ret
   exact ⟨rfl,hi,hg⟩
  | succ j=>
   obtain ⟨c,hc⟩:=at_some (bl t) j (by rw [HL.out];omega)
   have C : ∀ h,t[j]'h = c:=atB_of t j c hc
   have hst:=le_step (bl t) j c hc
   have hb:=leN_lt ((bl t).drop (j + 1))
   have hcl:=c.toNat_lt
   have hb2 : leN ((bl t).drop (j + 1)) < 72057594037927936:=by
    refine Nat.lt_of_lt_of_le hb ?_
    have : ((bl t).drop (j + 1)).length ≤ 7:=by rw [List.length_drop,HL.out];omega
    exact Nat.le_trans (Nat.pow_le_pow_right (by decide) this) (by decide)
   clear hb hc
   generalize leN ((bl t).drop (j + 1)) = q at *
   have ej : (((j + 1 : Nat) : Int) - 1) = (j : Int):=by omega
   rw [ej]
   have HST:=Lib.hid hst
   clear hst
   have hmod : (q : Int) * 256 % 18446744073709551616 = (q : Int) * 256:=by omega
   have hor : bits .or .u64 ((q : Int) * 256) (c.toNat : Int) = (q : Int) * 256 + c.toNat:=u64_or8b _ _ (by omega) (by omega) (by omega) (by omega) (by omega)
   go_wp2_with fail
   exact ⟨⟨j,rfl,by rw [HST.out];congr 1;omega,by omega⟩,by simp [intOf]⟩
end Go.Proofs.YtnbglcaeekppjaaGreatDoor
