/- Uc -/
import Derived.Test.YtohbeinhlhgfiaaGreatDoorMRgZ
set_option linter.unusedVariables false
set_option linter.unusedSimpArgs false
namespace Go.Proofs.YtohbeinhlhgfiaaGreatDoor
open Go.RowKit
def unitB (big : Bool) (u : Int) : List UInt8:=if big then [UInt8.ofNat (u.toNat / 256),UInt8.ofNat (u.toNat % 256)] else [UInt8.ofNat (u.toNat % 256),UInt8.ofNat (u.toNat / 256)]
theorem unitB_len (big : Bool) (u : Int) : (unitB big u).length = 2:=by unfold unitB;split <;> rfl
def unitsP (p : Int) : List Int:=if p < 65536 then [p] else [55296 + (p - 65536) / 1024,56320 + (p - 65536) % 1024]
def bytesP (big : Bool) (p : Int) : List UInt8:=(unitsP p).flatMap (unitB big)
end Go.Proofs.YtohbeinhlhgfiaaGreatDoor
set_option linter.unusedVariables false
set_option linter.unusedSimpArgs false
set_option maxHeartbeats 2000000
namespace Go.Proofs.YtohbeinhlhgfiaaGreatDoor
open Go.RowKit
theorem conv_fresh (w : World) (l : List UInt8) (hl : l.length ≤ 1000) : (convert 141 9 (.slice (some ⟨w.heap.size,0,none⟩) l.length l.length)).run Tryz.prog (w.alloc (.cells (bcells l).toArray 5)) = .ok (.string ⟨l.toArray⟩) (w.alloc (.cells (bcells l).toArray 5)):=by
 have hO : Own (w.alloc (.cells (bcells l).toArray 5)) w.heap.size (.slice (some ⟨w.heap.size,0,none⟩) l.length l.length) l:=
  ⟨by simp [bcells],.inr ⟨w.heap.size,l.length,_,rfl,Nat.le_refl _,heap_alloc_new _ _,Nat.le_refl _,by unfold maxLen;omega,by simp [bcells],by rw [Nat.mul_one,List.toList_toArray,List.take_of_length_le (by simp [bcells])]⟩⟩
 exact conv_Own hO
theorem conv_two (w : World) (x y : UInt8) : (convert 141 9 (.slice (some ⟨w.heap.size,0,none⟩) 2 2)).run Tryz.prog (w.alloc (.cells #[.int .u8 (x.toNat : Int),.int .u8 (y.toNat : Int)] 5)) = .ok (.string ⟨#[x,y]⟩) (w.alloc (.cells #[.int .u8 (x.toNat : Int),.int .u8 (y.toNat : Int)] 5)):=conv_fresh w [x,y] (by simp)
theorem u8_of (z : Int) (h0 : 0 ≤ z) (h1 : z < 256) : ∃ x : UInt8,z = (x.toNat : Int):=⟨UInt8.ofNat z.toNat,by rw [UInt8.toNat_ofNat'];omega⟩
theorem two3_any (u : Int) (big : Bool) (w : World) (h0 : 0 ≤ u) (h1 : u < 65536) : Calls Tryz.prog 37 #[.int .i32 u,.bool big] w fun e w'=>e = .returned (.string ⟨(unitB big u).toArray⟩) ∧ Below w.heap.size w w':=by
 obtain ⟨x,hx⟩:=u8_of (u / 256) (by omega) (by omega)
 obtain ⟨y,hy⟩:=u8_of (u % 256) (by omega) (by omega)
 have eh : UInt8.ofNat (u.toNat / 256) = x:=UInt8.toNat_inj.1 (by rw [UInt8.toNat_ofNat'];omega)
 have el : UInt8.ofNat (u.toNat % 256) = y:=UInt8.toNat_inj.1 (by rw [UInt8.toNat_ofNat'];omega)
 have w0 : IntKind.u8.wrap (u / 256) = (x.toNat : Int):=by rw [IntKind.wrap_u8];omega
 have w1 : IntKind.u8.wrap (u % 256) = (y.toNat : Int):=by rw [IntKind.wrap_u8];omega
 cases big with
 | true=>
  have e : unitB true u = [x,y]:=by unfold unitB;rw [if_pos rfl,eh,el]
  rw [e]
  have hc:=fun w=>conv_two w x y
  clear e hx hy eh el
  go_enter Tryz.func37,Tryz.ntmps37
  go_wp2
  go_ret
  exact ⟨rfl,bal (Below.refl _ _) _⟩
 | false=>
  have e : unitB false u = [y,x]:=by unfold unitB;rw [if_neg (by decide),eh,el]
  rw [e]
  have hc:=fun w=>conv_two w y x
  clear e hx hy eh el
  go_enter Tryz.func37,Tryz.ntmps37
  go_wp2
  go_ret
  exact ⟨rfl,bal (Below.refl _ _) _⟩
end Go.Proofs.YtohbeinhlhgfiaaGreatDoor
set_option linter.unusedVariables false
set_option linter.unusedSimpArgs false
set_option maxHeartbeats 4000000
namespace Go.Proofs.YtohbeinhlhgfiaaGreatDoor
open Go.RowKit
set_option maxRecDepth 100000 in
theorem encode3r_any (big : Bool) (v : Value) (ps : List Int) (w : World) (hrow : Row w v ps.length (icells ps)) (hs : ∀ p ∈ ps,Scal p) (hl : ps.length ≤ 1000000) :
 Calls Tryz.prog 11 #[v,.bool big] w fun e w'=>e = .returned (.string ⟨(ps.flatMap (bytesP big)).toArray⟩) ∧ Below w.heap.size w w':=by
 have K1:=Lib.hid (fun u w a b=>two3_any u big w a b)
 obtain ⟨n,hn⟩ : ∃ n,n = ps.length:=⟨_,rfl⟩
 rw [← hn] at hrow hl
 obtain ⟨a,cap,rfl,hc⟩:=hrow
 obtain ⟨R,hR⟩ : ∃ R : ByteArray,R = ⟨(ps.flatMap (bytesP big)).toArray⟩:=⟨_,rfl⟩
 rw [← hR]
 have hnI : (n : Int) ≤ 1000000:=by omega
 have HN:=Lib.hid hn
 have HC:=Lib.hid hc
 have HS:=Lib.hid hs
 have HR:=Lib.hid hR
 clear hn hc hs hR
 clear hl
 go_enter Tryz.func11,Tryz.ntmps11
 go_wp2
 go_loopw [5,6] (fun tv iv wr=>∃ (i : Nat) (T : ByteArray),iv = .int .i64 (i : Int) ∧ tv = .string T ∧ (i : Int) ≤ n ∧ (T.size : Int) ≤ 4 * i ∧ Hid (bl T = (ps.take i).flatMap (bytesP big)) ∧ Below w.heap.size w wr) (fun _ iv _=>n - (intOf iv).toNat)
 case atStart=>exact ⟨0,⟨#[]⟩,rfl,rfl,by omega,by decide,Lib.hid (by simp),Below.refl _ _⟩
 case round=>
  obtain ⟨i,T,rfl,rfl,hi,hT,hE,hbel⟩:=hrel
  by_cases hlt : (i : Int) < n
  · obtain ⟨p,hp⟩:=at_some ps i (by rw [← HN.out];omega)
    obtain ⟨g,o,rfl,hcell⟩:=HC.out i (.int .i32 p) (by simp [icells,hp])
    have hcell:=kc hbel hcell
    have hsc:=HS.out p (List.mem_of_getElem? hp)
    obtain ⟨p0,p1,_⟩:=hsc
    have he : (ps.take (i + 1)).flatMap (bytesP big) = bl T ++ bytesP big p:=by
     rw [List.take_add_one,hp,List.flatMap_append,hE.out];simp
    by_cases hlow : p < 65536
    · have hbp : bytesP big p = unitB big p:=by unfold bytesP unitsP;rw [if_pos hlow];simp
      rw [hbp] at he
      have k1:=fun w=>K1.out p w p0 hlow
      obtain ⟨V,hV⟩ : ∃ V : ByteArray,V = ⟨(unitB big p).toArray⟩:=⟨_,rfl⟩
      have hVs : V.size = 2:=by rw [hV];exact unitB_len big p
      rw [← hV] at k1
      have e1 : bl (T ++ V) = (ps.take (i + 1)).flatMap (bytesP big):=by rw [he,hV];simp [bl]
      have hTV : ((T ++ V).size : Int) ≤ 4 * ((i : Int) + 1):=by
       have e0 : bl (T ++ V) = bl T ++ bl V:=by simp [bl]
       rw [← bl_length,e0,List.length_append,bl_length,bl_length];omega
      have K1':=Lib.hid k1
      have E1:=Lib.hid e1
      have HV:=Lib.hid hV
      have HTV:=Lib.hid hTV
      clear k1 e1 hV hTV
      clear hp hE he hbp
      go_wp2_with (go_at_call 37;refine (K1'.out _).mono ?_;rintro e w1 ⟨rfl,hb1⟩)
      go_roundw
      case rel=>exact ⟨i + 1,T ++ V,by go_num,rfl,by omega,HTV.out,E1,bt hbel hb1⟩
      case measure=>simp [intOf];omega
    · have hbp : bytesP big p = unitB big (55296 + (p - 65536) / 1024) ++ unitB big (56320 + (p - 65536) % 1024):=by unfold bytesP unitsP;rw [if_neg hlow];simp
      rw [hbp] at he
      have k1:=fun w=>K1.out (55296 + (p - 65536) / 1024) w (by omega) (by omega)
      have k2:=fun w=>K1.out (56320 + (p - 65536) % 1024) w (by omega) (by omega)
      obtain ⟨U,hU⟩ : ∃ U : ByteArray,U = ⟨(unitB big (55296 + (p - 65536) / 1024)).toArray⟩:=⟨_,rfl⟩
      obtain ⟨V,hV⟩ : ∃ V : ByteArray,V = ⟨(unitB big (56320 + (p - 65536) % 1024)).toArray⟩:=⟨_,rfl⟩
      have hUs : U.size = 2:=by rw [hU];exact unitB_len big _
      have hVs : V.size = 2:=by rw [hV];exact unitB_len big _
      rw [← hU] at k1
      rw [← hV] at k2
      have e1 : bl (T ++ U ++ V) = (ps.take (i + 1)).flatMap (bytesP big):=by rw [he,hU,hV];simp [bl]
      have hTV : ((T ++ U ++ V).size : Int) ≤ 4 * ((i : Int) + 1):=by
       have e0 : bl (T ++ U ++ V) = bl T ++ (bl U ++ bl V):=by simp [bl]
       rw [← bl_length,e0,List.length_append,List.length_append,bl_length,bl_length,bl_length];omega
      have hTU : ((T ++ U).size : Int) ≤ 4 * (i : Int) + 2:=by
       have e0 : bl (T ++ U) = bl T ++ bl U:=by simp [bl]
       rw [← bl_length,e0,List.length_append,bl_length,bl_length];omega
      have K1':=Lib.hid k1
      have K2':=Lib.hid k2
      have E1:=Lib.hid e1
      have HV:=Lib.hid hV
      have HU:=Lib.hid hU
      have HTV:=Lib.hid hTV
      clear k1 k2 e1 hV hU hTV
      clear hp hE he hbp
      go_wp2_with (first
       | (go_at_call 37;with_reducible refine (K1'.out _).mono ?_;rintro e w1 ⟨rfl,hb1⟩)
       | (go_at_call 37;with_reducible refine (K2'.out _).mono ?_;rintro e w2 ⟨rfl,hb2⟩))
      go_roundw
      case rel=>exact ⟨i + 1,T ++ U ++ V,by go_num,rfl,by omega,HTV.out,E1,bt (bt hbel hb1) hb2⟩
      case measure=>simp [intOf];omega
  · have hin : i = n:=by omega
    have e1 : T = R:=by
     have h:=hE.out
     rw [List.take_of_length_le (by rw [← HN.out];omega)] at h
     rw [HR.out,← h]
    clear hE hlt
    subst hin
    subst e1
    go_wp2
    go_ret
    exact ⟨rfl,hbel⟩
end Go.Proofs.YtohbeinhlhgfiaaGreatDoor
