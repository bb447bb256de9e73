/- Su -/
import Derived.Test.YtjoechkdmdinoaaGreatDoorMPg
set_option linter.unusedVariables false
set_option linter.unusedSimpArgs false
set_option maxHeartbeats 2000000
namespace Go.Proofs.YtjoechkdmdinoaaGreatDoor
open Go.RowKit
theorem bits_u32 (op : BinOp) (x y : Int) : 0 ≤ bits op .u32 x y ∧ bits op .u32 x y < 4294967296:=by
 unfold bits
 rw [IntKind.wrap_u32]
 omega
def stI (x : Int) : Int:=if (bits .and .u32 x 2147483648 != 0) = true then bits .xor .u32 (x * 2 % 4294967296) 79764919 else x * 2 % 4294967296
def stN : Nat → Int → Int
 | 0,x=>x
 | j + 1,x=>stI (stN j x)
def hv (k : Nat) : Int:=stN 4 ((k : Int) * 268435456)
def hvA (k : Nat) : Array Value:=#[.int .u32 (if 0 < k then hv 0 else 0),.int .u32 (if 1 < k then hv 1 else 0),.int .u32 (if 2 < k then hv 2 else 0),.int .u32 (if 3 < k then hv 3 else 0),.int .u32 (if 4 < k then hv 4 else 0),.int .u32 (if 5 < k then hv 5 else 0),.int .u32 (if 6 < k then hv 6 else 0),.int .u32 (if 7 < k then hv 7 else 0),.int .u32 (if 8 < k then hv 8 else 0),.int .u32 (if 9 < k then hv 9 else 0),.int .u32 (if 10 < k then hv 10 else 0),.int .u32 (if 11 < k then hv 11 else 0),.int .u32 (if 12 < k then hv 12 else 0),.int .u32 (if 13 < k then hv 13 else 0),.int .u32 (if 14 < k then hv 14 else 0),.int .u32 (if 15 < k then hv 15 else 0)]
theorem hvA_set : ∀ k,k < 16 → (hvA k).setIfInBounds k (.int .u32 (hv k)) = hvA (k + 1):=by
 intro k hk
 match k,hk with
 | 0,_=>rfl
 | 1,_=>rfl
 | 2,_=>rfl
 | 3,_=>rfl
 | 4,_=>rfl
 | 5,_=>rfl
 | 6,_=>rfl
 | 7,_=>rfl
 | 8,_=>rfl
 | 9,_=>rfl
 | 10,_=>rfl
 | 11,_=>rfl
 | 12,_=>rfl
 | 13,_=>rfl
 | 14,_=>rfl
 | 15,_=>rfl
 | n + 16,h=>exact absurd h (by omega)
theorem hvA_at : ∀ k,k < 16 → (hvA k)[k]? = some (.int .u32 0):=by
 intro k hk
 match k,hk with
 | 0,_=>rfl
 | 1,_=>rfl
 | 2,_=>rfl
 | 3,_=>rfl
 | 4,_=>rfl
 | 5,_=>rfl
 | 6,_=>rfl
 | 7,_=>rfl
 | 8,_=>rfl
 | 9,_=>rfl
 | 10,_=>rfl
 | 11,_=>rfl
 | 12,_=>rfl
 | 13,_=>rfl
 | 14,_=>rfl
 | 15,_=>rfl
 | n + 16,h=>exact absurd h (by omega)
set_option maxRecDepth 100000 in
theorem halves_any (w : World) : Calls Tryz.prog 273 #[] w fun e w'=>e = .returned (.agg (hvA 16)) ∧ Below w.heap.size w w':=by
 obtain ⟨H,hH⟩ : ∃ H,H = w.heap.size:=⟨_,rfl⟩
 have hs1 : (w.alloc (.cells #[.int .u32 0,.int .u32 0,.int .u32 0,.int .u32 0,.int .u32 0,.int .u32 0,.int .u32 0,.int .u32 0,.int .u32 0,.int .u32 0,.int .u32 0,.int .u32 0,.int .u32 0,.int .u32 0,.int .u32 0,.int .u32 0] 287)).heap.size = w.heap.size + 1:=World.size_alloc _ _
 obtain ⟨W,hW⟩ : ∃ W,W = (w.alloc (.cells #[.int .u32 0,.int .u32 0,.int .u32 0,.int .u32 0,.int .u32 0,.int .u32 0,.int .u32 0,.int .u32 0,.int .u32 0,.int .u32 0,.int .u32 0,.int .u32 0,.int .u32 0,.int .u32 0,.int .u32 0,.int .u32 0] 287)).alloc (.cells #[.int .u32 0,.int .u32 0,.int .u32 0,.int .u32 0,.int .u32 0,.int .u32 0,.int .u32 0,.int .u32 0,.int .u32 0,.int .u32 0,.int .u32 0,.int .u32 0,.int .u32 0,.int .u32 0,.int .u32 0,.int .u32 0] 287):=⟨_,rfl⟩
 have A : W.heap[w.heap.size]? = some (.cells #[.int .u32 0,.int .u32 0,.int .u32 0,.int .u32 0,.int .u32 0,.int .u32 0,.int .u32 0,.int .u32 0,.int .u32 0,.int .u32 0,.int .u32 0,.int .u32 0,.int .u32 0,.int .u32 0,.int .u32 0,.int .u32 0] 287 (0,0)):=by
  rw [hW];exact (heap_alloc_old _ _ (by rw [hs1];omega)).trans (heap_alloc_new _ _)
 have B : W.heap[w.heap.size + 1]? = some (.cells (hvA 0) 287 (0,0)):=by
  rw [hW,← hs1];exact heap_alloc_new _ _
 have hbW : Below w.heap.size w W:=by rw [hW];exact bal (bal (Below.refl _ _) _) _
 have A0:=Lib.hid A
 have B0:=Lib.hid B
 have HBW:=Lib.hid hbW
 clear A B hbW
 clear hs1
 go_enter Tryz.func273,Tryz.ntmps273
 go_wp2_with fail
 rw [← hW]
 clear hW
 go_loopw [4] (fun iv wr=>∃ k : Nat,iv = .int .i64 (k : Int) ∧ k ≤ 16 ∧ Hid (wr.heap[w.heap.size]? = some (.cells #[.int .u32 0,.int .u32 0,.int .u32 0,.int .u32 0,.int .u32 0,.int .u32 0,.int .u32 0,.int .u32 0,.int .u32 0,.int .u32 0,.int .u32 0,.int .u32 0,.int .u32 0,.int .u32 0,.int .u32 0,.int .u32 0] 287 (0,0))) ∧ Hid (wr.heap[w.heap.size + 1]? = some (.cells (hvA k) 287 (0,0))) ∧ Below w.heap.size w wr) (fun iv _=>16 - (intOf iv).toNat)
 case atStart=>exact ⟨0,rfl,Nat.zero_le _,A0,B0,HBW.out⟩
 case round=>
  obtain ⟨k,rfl,hk,HA,HB,hbel⟩:=hrel
  by_cases hlt : k < 16
  · go_wp2_with fail
    go_loop [3,10] (fun s j=>∃ i : Nat,s = .int .u32 (stN i ((k : Int) * 268435456)) ∧ j = .int .i64 (i : Int) ∧ i ≤ 4) (fun _ j=>4 - (intOf j).toNat)
    case atStart=>exact ⟨0,rfl,rfl,Nat.zero_le _⟩
    case round=>
     obtain ⟨i,rfl,rfl,hi⟩:=hrel
     by_cases hl2 : i < 4
     · have hS : stN (i + 1) ((k : Int) * 268435456) = stI (stN i ((k : Int) * 268435456)):=rfl
       generalize stN i ((k : Int) * 268435456) = x at *
       unfold stI at hS
       cases hb : (bits .and .u32 x 2147483648 != 0) with
       | true=>
        rw [hb,if_pos rfl] at hS
        have HS:=Lib.hid hS
        clear hS
        go_wp2_with fail
        go_round
        case rel=>exact ⟨i + 1,by rw [HS.out],by go_num,by omega⟩
        case measure=>simp [intOf];omega
       | false=>
        rw [hb,if_neg (by decide)] at hS
        have HS:=Lib.hid hS
        clear hS
        go_wp2_with fail
        go_round
        case rel=>exact ⟨i + 1,by rw [HS.out],by go_num,by omega⟩
        case measure=>simp [intOf];omega
     · have hi4 : i = 4:=by omega
       have hx : stN i ((k : Int) * 268435456) = hv k:=by rw [hi4];rfl
       rw [hx]
       have hv0 : (hvA k)[k]? = some (.int .u32 0):=hvA_at k hlt
       obtain ⟨c0,f0⟩:=live_of HB.out k _ hv0
       clear hx
       have m0 : (0 : Int) ≤ (k : Int):=by omega
       have m1 : (k : Int) < 16:=by omega
       have m2 : ¬ (i : Int) < 4:=by omega
       clear hi4
       go_wp2_with fail
       exact ⟨⟨k + 1,by go_num,by omega,Lib.hid ((Below.heap_setCell _ _ _ w.heap.size (by simp)).trans HA.out),Lib.hid (by rw [Go.Lib.heap_setCell_same (i:=k) HB.out,hvA_set k hlt]),hbel.setCell (by simp) _⟩,by simp [intOf];omega⟩
  · have hk16 : k = 16:=by omega
    have HB2:=HB.out
    rw [hk16] at HB2
    obtain ⟨c0,f0⟩:=live_of HB2 0 (.int .u32 (hv 0)) rfl
    obtain ⟨d0,e0⟩:=live_of HA.out 0 _ rfl
    obtain ⟨c1,f1⟩:=live_of HB2 1 (.int .u32 (hv 1)) rfl
    obtain ⟨d1,e1⟩:=live_of HA.out 1 _ rfl
    obtain ⟨c2,f2⟩:=live_of HB2 2 (.int .u32 (hv 2)) rfl
    obtain ⟨d2,e2⟩:=live_of HA.out 2 _ rfl
    obtain ⟨c3,f3⟩:=live_of HB2 3 (.int .u32 (hv 3)) rfl
    obtain ⟨d3,e3⟩:=live_of HA.out 3 _ rfl
    obtain ⟨c4,f4⟩:=live_of HB2 4 (.int .u32 (hv 4)) rfl
    obtain ⟨d4,e4⟩:=live_of HA.out 4 _ rfl
    obtain ⟨c5,f5⟩:=live_of HB2 5 (.int .u32 (hv 5)) rfl
    obtain ⟨d5,e5⟩:=live_of HA.out 5 _ rfl
    obtain ⟨c6,f6⟩:=live_of HB2 6 (.int .u32 (hv 6)) rfl
    obtain ⟨d6,e6⟩:=live_of HA.out 6 _ rfl
    obtain ⟨c7,f7⟩:=live_of HB2 7 (.int .u32 (hv 7)) rfl
    obtain ⟨d7,e7⟩:=live_of HA.out 7 _ rfl
    obtain ⟨c8,f8⟩:=live_of HB2 8 (.int .u32 (hv 8)) rfl
    obtain ⟨d8,e8⟩:=live_of HA.out 8 _ rfl
    obtain ⟨c9,f9⟩:=live_of HB2 9 (.int .u32 (hv 9)) rfl
    obtain ⟨d9,e9⟩:=live_of HA.out 9 _ rfl
    obtain ⟨c10,f10⟩:=live_of HB2 10 (.int .u32 (hv 10)) rfl
    obtain ⟨d10,e10⟩:=live_of HA.out 10 _ rfl
    obtain ⟨c11,f11⟩:=live_of HB2 11 (.int .u32 (hv 11)) rfl
    obtain ⟨d11,e11⟩:=live_of HA.out 11 _ rfl
    obtain ⟨c12,f12⟩:=live_of HB2 12 (.int .u32 (hv 12)) rfl
    obtain ⟨d12,e12⟩:=live_of HA.out 12 _ rfl
    obtain ⟨c13,f13⟩:=live_of HB2 13 (.int .u32 (hv 13)) rfl
    obtain ⟨d13,e13⟩:=live_of HA.out 13 _ rfl
    obtain ⟨c14,f14⟩:=live_of HB2 14 (.int .u32 (hv 14)) rfl
    obtain ⟨d14,e14⟩:=live_of HA.out 14 _ rfl
    obtain ⟨c15,f15⟩:=live_of HB2 15 (.int .u32 (hv 15)) rfl
    obtain ⟨d15,e15⟩:=live_of HA.out 15 _ rfl
    have m1 : ¬ (k : Int) < 16:=by omega
    clear hk16 HB HB2
    go_wp2_with fail
    refine bodyPost_ret (v:=.agg (hvA 16)) (by simp [results,Tryz.results273,go_sem,d0,e0,d1,e1,d2,e2,d3,e3,d4,e4,d5,e5,d6,e6,d7,e7,d8,e8,d9,e9,d10,e10,d11,e11,d12,e12,d13,e13,d14,e14,d15,e15,hvA]) rfl ?_
    exact ⟨rfl,((((((((((((((((hbel.setCell (Nat.le_refl _) _).setCell (Nat.le_refl _) _).setCell (Nat.le_refl _) _).setCell (Nat.le_refl _) _).setCell (Nat.le_refl _) _).setCell (Nat.le_refl _) _).setCell (Nat.le_refl _) _).setCell (Nat.le_refl _) _).setCell (Nat.le_refl _) _).setCell (Nat.le_refl _) _).setCell (Nat.le_refl _) _).setCell (Nat.le_refl _) _).setCell (Nat.le_refl _) _).setCell (Nat.le_refl _) _).setCell (Nat.le_refl _) _).setCell (Nat.le_refl _) _)⟩
end Go.Proofs.YtjoechkdmdinoaaGreatDoor
