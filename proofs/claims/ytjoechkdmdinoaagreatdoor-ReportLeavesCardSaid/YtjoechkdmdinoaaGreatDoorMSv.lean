/- Sv -/
import Derived.Test.YtjoechkdmdinoaaGreatDoorMSu
set_option linter.unusedVariables false
set_option linter.unusedSimpArgs false
set_option maxHeartbeats 1000000
namespace Go.Proofs.YtjoechkdmdinoaaGreatDoor
open Go.RowKit
def nibI (s : Int) : Int:=bits .xor .u32 (s * 16 % 4294967296) (hv (s / 268435456).toNat)
def crcI (s : Int) (c : UInt8) : Int:=nibI (nibI (bits .xor .u32 s ((c.toNat : Int) * 16777216)))
theorem nibI_bd (s : Int) : 0 ≤ nibI s ∧ nibI s < 4294967296:=bits_u32 _ _ _
theorem crcI_bd (s : Int) (c : UInt8) : 0 ≤ crcI s c ∧ crcI s c < 4294967296:=nibI_bd _
def crcF (s : Int) (l : List UInt8) : Int:=l.foldl crcI s
theorem crcF_bd : ∀ (l : List UInt8) (s : Int),0 ≤ s ∧ s < 4294967296 → 0 ≤ crcF s l ∧ crcF s l < 4294967296
 | [],s,h=>h
 | c :: r,s,h=>crcF_bd r (crcI s c) (crcI_bd s c)
theorem crcF_append (s : Int) (a b : List UInt8) : crcF s (a ++ b) = crcF (crcF s a) b:=List.foldl_append ..
theorem hvA_val (k : Nat) (hk : k < 16) : (hvA 16)[k]? = some (.int .u32 (hv k)):=by
 match k,hk with
 | 0,_=>rfl
 | 1,_=>rfl
 | 2,_=>rfl
 | 3,_=>rfl
 | 4,_=>rfl
 | 5,_=>rfl
 | 6,_=>rfl
 | 7,_=>rfl
 | 8,_=>rfl
 | 9,_=>rfl
 | 10,_=>rfl
 | 11,_=>rfl
 | 12,_=>rfl
 | 13,_=>rfl
 | 14,_=>rfl
 | 15,_=>rfl
 | n + 16,h=>exact absurd h (by omega)
theorem scells_at (l : List ByteArray) (k : Nat) (t : ByteArray) (h : l[k]? = some t) : (scells l)[k]? = some (.string t):=by unfold scells;rw [List.getElem?_map,h];rfl
set_option maxRecDepth 100000 in
theorem sadd_any (s0 : Int) (xs : List ByteArray) (rv : Value) (w : World) (h0 : 0 ≤ s0 ∧ s0 < 4294967296) (hrow : Row w rv xs.length (scells xs)) (hs : ∀ t ∈ xs,t.size ≤ 1073741824) (hn : xs.length ≤ 1073741824) :
 Calls Tryz.prog 182 #[.int .u32 s0,rv] w fun e w'=>e = .returned (.int .u32 (crcF s0 (xs.map bl).flatten)) ∧ Below w.heap.size w w':=by
 obtain ⟨av,cap,rfl,hc⟩:=hrow
 have k1:=fun w=>halves_any w
 obtain ⟨n,hn'⟩ : ∃ n,n = xs.length:=⟨_,rfl⟩
 rw [← hn'] at hn ⊢
 obtain ⟨RES,hRES⟩ : ∃ RES,RES = crcF s0 (xs.map bl).flatten:=⟨_,rfl⟩
 rw [← hRES]
 have HSS:=Lib.hid hs
 have e16 : hvA 16 = #[.int .u32 (hv 0),.int .u32 (hv 1),.int .u32 (hv 2),.int .u32 (hv 3),.int .u32 (hv 4),.int .u32 (hv 5),.int .u32 (hv 6),.int .u32 (hv 7),.int .u32 (hv 8),.int .u32 (hv 9),.int .u32 (hv 10),.int .u32 (hv 11),.int .u32 (hv 12),.int .u32 (hv 13),.int .u32 (hv 14),.int .u32 (hv 15)]:=rfl
 rw [e16] at k1
 have K1:=Lib.hid k1
 have HC:=Lib.hid hc
 have HN:=Lib.hid hn'
 have HR:=Lib.hid hRES
 clear k1 hc hn' hRES
 clear hs e16
 go_enter Tryz.func182,Tryz.ntmps182
 go_wp2_with (go_at_call 273;go_loud (with_reducible refine (K1.out _).mono ?_);go_loud (rintro e w1 ⟨rfl,hb1⟩))
 have hbA:=bal hb1 (.cells #[.int .u32 (hv 0),.int .u32 (hv 1),.int .u32 (hv 2),.int .u32 (hv 3),.int .u32 (hv 4),.int .u32 (hv 5),.int .u32 (hv 6),.int .u32 (hv 7),.int .u32 (hv 8),.int .u32 (hv 9),.int .u32 (hv 10),.int .u32 (hv 11),.int .u32 (hv 12),.int .u32 (hv 13),.int .u32 (hv 14),.int .u32 (hv 15)] 287)
 have A1 : (w1.alloc (.cells #[.int .u32 (hv 0),.int .u32 (hv 1),.int .u32 (hv 2),.int .u32 (hv 3),.int .u32 (hv 4),.int .u32 (hv 5),.int .u32 (hv 6),.int .u32 (hv 7),.int .u32 (hv 8),.int .u32 (hv 9),.int .u32 (hv 10),.int .u32 (hv 11),.int .u32 (hv 12),.int .u32 (hv 13),.int .u32 (hv 14),.int .u32 (hv 15)] 287)).heap[w1.heap.size]? = some (.cells (hvA 16) 287 (0,0)):=heap_alloc_new w1 (.cells #[.int .u32 (hv 0),.int .u32 (hv 1),.int .u32 (hv 2),.int .u32 (hv 3),.int .u32 (hv 4),.int .u32 (hv 5),.int .u32 (hv 6),.int .u32 (hv 7),.int .u32 (hv 8),.int .u32 (hv 9),.int .u32 (hv 10),.int .u32 (hv 11),.int .u32 (hv 12),.int .u32 (hv 13),.int .u32 (hv 14),.int .u32 (hv 15)] 287)
 generalize w1.alloc (.cells #[.int .u32 (hv 0),.int .u32 (hv 1),.int .u32 (hv 2),.int .u32 (hv 3),.int .u32 (hv 4),.int .u32 (hv 5),.int .u32 (hv 6),.int .u32 (hv 7),.int .u32 (hv 8),.int .u32 (hv 9),.int .u32 (hv 10),.int .u32 (hv 11),.int .u32 (hv 12),.int .u32 (hv 13),.int .u32 (hv 14),.int .u32 (hv 15)] 287) = W1 at *
 have HTAB : Hid (∀ q : Nat,q < 16 → W1.cell? ⟨w1.heap.size,q,none⟩ = some (.int .u32 (hv q))):=Lib.hid fun q hq=>(live_of A1 q _ (hvA_val q hq)).1
 have HBA:=Lib.hid hbA
 clear hbA
 clear A1 hb1
 go_loop [0,12] (fun sv iv=>∃ k : Nat,sv = .int .u32 (crcF s0 ((xs.take k).map bl).flatten) ∧ iv = .int .i64 (k : Int) ∧ k ≤ n) (fun _ iv=>n - (intOf iv).toNat)
 case atStart=>exact ⟨0,rfl,rfl,Nat.zero_le _⟩
 case round=>
  obtain ⟨k,rfl,rfl,hk⟩:=hrel
  have hbd:=crcF_bd ((xs.take k).map bl).flatten s0 h0
  by_cases hlt : k < n
  · obtain ⟨t,ht⟩:=at_some xs k (by rw [← HN.out];exact hlt)
    obtain ⟨g,o,rfl,d0⟩:=HC.out k _ (scells_at xs k t ht)
    replace d0:=kc HBA.out d0
    have hts:=HSS.out t (List.mem_of_getElem? ht)
    have hstep : crcF s0 ((xs.take (k + 1)).map bl).flatten = crcF (crcF s0 ((xs.take k).map bl).flatten) (bl t):=by
     rw [List.take_add_one,ht]
     simp [crcF_append]
    have HST:=Lib.hid hstep
    have HTL : Hid ((bl t).length = t.size):=bl_length t
    generalize crcF s0 ((xs.take k).map bl).flatten = s1 at *
    have m0 : (0 : Int) ≤ (k : Int):=by omega
    have m1 : (k : Int) < (n : Int):=by omega
    clear hstep ht
    go_wp2_with fail
    go_loop [0,18] (fun sv jv=>∃ j : Nat,sv = .int .u32 (crcF s1 ((bl t).take j)) ∧ jv = .int .i64 (j : Int) ∧ j ≤ t.size) (fun _ jv=>t.size - (intOf jv).toNat)
    case atStart=>exact ⟨0,rfl,rfl,Nat.zero_le _⟩
    case round=>
     obtain ⟨j,rfl,rfl,hj⟩:=hrel
     by_cases hl2 : j < t.size
     · obtain ⟨b,hb⟩:=at_some (bl t) j (by rw [HTL.out];exact hl2)
       have X : ∀ h,t[j]'h = b:=atB_of t j b hb
       have hs2 : crcF s1 ((bl t).take (j + 1)) = crcI (crcF s1 ((bl t).take j)) b:=by
        rw [List.take_add_one,hb]
        simp [crcF_append,crcF]
       have hxb:=crcF_bd ((bl t).take j) s1 hbd
       have HS2:=Lib.hid hs2
       generalize crcF s1 ((bl t).take j) = x at *
       have hbl:=b.toNat_lt
       have j0 : (0 : Int) ≤ (j : Int):=by omega
       have j1 : (j : Int) < (t.size : Int):=by omega
       have b1:=bits_u32 .xor x ((b.toNat : Int) * 16777216)
       obtain ⟨y1,hy1⟩ : ∃ y,bits .xor .u32 x ((b.toNat : Int) * 16777216) = y:=⟨_,rfl⟩
       rw [hy1] at b1
       obtain ⟨q1,hq1⟩ : ∃ q : Nat,y1 / 268435456 = (q : Int):=⟨(y1 / 268435456).toNat,by omega⟩
       have l1 : q1 < 16:=by omega
       have e1:=HTAB.out q1 l1
       have b2:=bits_u32 .xor (y1 * 16 % 4294967296) (hv q1)
       obtain ⟨y2,hy2⟩ : ∃ y,bits .xor .u32 (y1 * 16 % 4294967296) (hv q1) = y:=⟨_,rfl⟩
       rw [hy2] at b2
       obtain ⟨q2,hq2⟩ : ∃ q : Nat,y2 / 268435456 = (q : Int):=⟨(y2 / 268435456).toNat,by omega⟩
       have l2 : q2 < 16:=by omega
       have e2:=HTAB.out q2 l2
       have n1 : nibI y1 = y2:=by unfold nibI;rw [hq1,Int.toNat_natCast,hy2]
       have n2 : nibI y2 = bits .xor .u32 (y2 * 16 % 4294967296) (hv q2):=by unfold nibI;rw [hq2,Int.toNat_natCast]
       have HC3 : Hid (crcI x b = bits .xor .u32 (y2 * 16 % 4294967296) (hv q2)):=by unfold crcI;rw [hy1,n1,n2];exact Lib.hid rfl
       have i1 : (0 : Int) ≤ (q1 : Int):=by omega
       have i2 : (q1 : Int) < 16:=by omega
       have i3 : (0 : Int) ≤ (q2 : Int):=by omega
       have i4 : (q2 : Int) < 16:=by omega
       clear hs2 hb n1 n2 b1 b2 hxb l1 l2
       go_wp2_with fail
       go_round
       case rel=>exact ⟨j + 1,by rw [HS2.out,HC3.out],by go_num,by omega⟩
       case measure=>simp [intOf];omega
     · have hj2 : j = t.size:=by omega
       have hx : crcF s1 ((bl t).take j) = crcF s1 (bl t):=by rw [List.take_of_length_le (by rw [HTL.out];omega)]
       rw [hx]
       have m2 : ¬ (j : Int) < (t.size : Int):=by omega
       clear hx hj2
       go_wp2_with fail
       exact ⟨⟨k + 1,by rw [HST.out],by go_num,by omega⟩,by simp [intOf];omega⟩
  · have hx : crcF s0 ((xs.take k).map bl).flatten = RES:=by rw [List.take_of_length_le (by have:=HN.out;omega)];exact HR.out.symm
    rw [hx]
    have m1 : ¬ (k : Int) < (n : Int):=by omega
    clear hx
    go_wp2_with fail
    go_ret
    exact ⟨rfl,HBA.out⟩
theorem sof_any (xs : List ByteArray) (rv : Value) (w : World) (hrow : Row w rv xs.length (scells xs)) (hs : ∀ t ∈ xs,t.size ≤ 1073741824) (hn : xs.length ≤ 1073741824) :
 Calls Tryz.prog 103 #[rv] w fun e w'=>e = .returned (.int .u32 (crcF 0 (xs.map bl).flatten)) ∧ Below w.heap.size w w':=by
 have k1:=sadd_any 0 xs rv w (by omega) hrow hs hn
 generalize crcF 0 (xs.map bl).flatten = RES at *
 have K1:=Lib.hid k1
 clear k1
 clear hrow hs hn
 go_enter Tryz.func103,Tryz.ntmps103
 go_wp2_with (go_at_call 182;go_loud (with_reducible refine K1.out.mono ?_);go_loud (rintro e w1 ⟨rfl,hb1⟩))
 go_ret
 exact ⟨rfl,hb1⟩
theorem sbytes_any (s : Int) (w : World) (h : 0 ≤ s ∧ s < 4294967296) : Calls Tryz.prog 104 #[.int .u32 s] w fun e w'=>e = .returned (.string ⟨(leL s 4).toArray⟩) ∧ Below w.heap.size w w':=by
 have k1:=fun w=>osmall_any s 4 w h.1 (by omega)
 rw [widthOf4] at k1
 have hw : IntKind.u64.wrap s = s:=by rw [IntKind.wrap_u64];omega
 have K1:=Lib.hid k1
 clear k1
 go_enter Tryz.func104,Tryz.ntmps104
 go_wp2_with (go_at_call 183;go_loud (with_reducible refine (K1.out _).mono ?_);go_loud (rintro e w1 ⟨rfl,hb1⟩))
 go_ret
 exact ⟨rfl,hb1⟩
end Go.Proofs.YtjoechkdmdinoaaGreatDoor
