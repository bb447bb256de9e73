/- ReZ -/
import Derived.Test.YtohbeinhlhgfiaaGreatDoorMTm
set_option linter.unusedVariables false
set_option linter.unusedSimpArgs false
set_option maxHeartbeats 4000000
namespace Go.Proofs.YtohbeinhlhgfiaaGreatDoor
open Go.RowKit
theorem infoInt : (Tryz.prog.info? 3).map (fun i=>(i.zero,i.size,i.bytes)) = some (some (.int .i64 0),1,8):=by kernel_rfl
theorem ncells_append (l m : List Int) : ncells (l ++ m) = ncells l ++ ncells m:=by simp [ncells]
theorem refUnit_any (x y : UInt8) (big : Bool) (w : World) :
 Calls Tryz.prog 168 #[.int .u8 (x.toNat : Int),.int .u8 (y.toNat : Int),.bool big] w fun e w'=>e = .returned (.int .i64 (unitI x y big)) ∧ Below w.heap.size w w':=by
 have hxl:=x.toNat_lt
 have hyl:=y.toNat_lt
 have a1 : IntKind.i64.wrap (x.toNat : Int) = x.toNat:=by rw [wraps_i64] <;> omega
 have a2 : IntKind.i64.wrap (y.toNat : Int) = y.toNat:=by rw [wraps_i64] <;> omega
 have e6 : IntKind.i64.wrap ((x.toNat : Int) * 256) = (x.toNat : Int) * 256:=by rw [wraps_i64] <;> omega
 have e7 : IntKind.i64.wrap ((y.toNat : Int) * 256) = (y.toNat : Int) * 256:=by rw [wraps_i64] <;> omega
 have e8 : IntKind.i64.wrap ((x.toNat : Int) * 256 + y.toNat) = (x.toNat : Int) * 256 + y.toNat:=by rw [wraps_i64] <;> omega
 have e9 : IntKind.i64.wrap ((y.toNat : Int) * 256 + x.toNat) = (y.toNat : Int) * 256 + x.toNat:=by rw [wraps_i64] <;> omega
 cases big
 · go_enter Tryz.func168,Tryz.ntmps168
   go_wp2
   go_ret
   exact ⟨ret_i (by unfold unitI;simp),Below.refl _ _⟩
 · go_enter Tryz.func168,Tryz.ntmps168
   go_wp2
   go_ret
   exact ⟨ret_i (by unfold unitI;simp),Below.refl _ _⟩
set_option maxRecDepth 100000 in
theorem refUnits_any (s : ByteArray) (big : Bool) (w : World) (hs : s.size ≤ 1073741824) :
 Calls Tryz.prog 83 #[.string s,.bool big] w fun e w'=>∃ v,e = .returned v ∧ OwnN w' w.heap.size v (unitsL big (bl s)) ∧ Below w.heap.size w w':=by
 have HL : Hid ((bl s).length = s.size):=bl_length s
 obtain ⟨U,hU⟩ : ∃ U,U = unitsL big (bl s):=⟨_,rfl⟩
 rw [← hU]
 have HU:=Lib.hid hU
 clear hU
 go_enter Tryz.func83,Tryz.ntmps83
 go_wp2
 go_loopw [5,6] (fun v iv wr=>∃ (k j : Nat) (acc : List Int),iv = .int .i64 ((j : Int) + 1) ∧ Hid (j = 2 * k) ∧ OwnN wr w.heap.size v acc ∧ j ≤ s.size ∧ acc.length = k ∧ Hid (acc ++ unitsL big ((bl s).drop j) = U) ∧ Below w.heap.size w wr) (fun _ iv _=>s.size + 1 - (intOf iv).toNat)
 case atStart=>exact ⟨0,0,[],rfl,Lib.hid rfl,World.ownsRow_nil _ _ _ _,Nat.zero_le _,rfl,Lib.hid (by rw [HU.out];rfl),Below.refl _ _⟩
 case round=>
  obtain ⟨k,j,acc,rfl,hj,hown,hk,hacc,hQ,hbel⟩:=hrel
  by_cases hlt : j + 1 < s.size
  · obtain ⟨x,y,hx,hy,hd⟩:=drop_two (l:=bl s) (k:=j) (by rw [HL.out];exact hlt)
    have k1:=fun w=>refUnit_any x y big w
    have X : ∀ h,s[j]'h = x:=atB_of s _ x hx
    have Y : ∀ h,s[j + 1]'h = y:=atB_of s _ y hy
    have e1:=hQ.out
    rw [hd,unitsL] at e1
    have e2 : (acc ++ [unitI x y big]) ++ unitsL big ((bl s).drop (j + 2)) = U:=by rw [List.append_assoc];exact e1
    generalize unitI x y big = p at *
    have K1:=Lib.hid k1
    have E2:=Lib.hid e2
    clear k1 e2
    clear hx hy hd e1 hQ
    have hj0 : j < s.size:=by omega
    have HA1 : Hid (acc.length < 70368744177664):=Lib.hid (by have:=hj.out;omega)
    have HA2 : Hid ((acc.length + 1) * 8 ≤ 140737488355328):=Lib.hid (by have:=hj.out;omega)
    have i0 : IntKind.i64.wrap ((j : Int) + 1 - 1) = j:=by rw [wraps_i64] <;> omega
    have i1 : IntKind.i64.wrap (j : Int) = j:=by rw [wraps_i64] <;> omega
    have i2 : (0 : Int) ≤ (j : Int) + 1:=by omega
    have i3 : ((j : Int) + 1).toNat = j + 1:=by omega
    have i4 : IntKind.i64.wrap ((j : Int) + 1 + 2) = (j : Int) + 1 + 2:=by rw [wraps_i64] <;> omega
    have hod : OwnN wr.drew w.heap.size u5 acc:=hown.bel (Below.refl _ _).drew
    have hbd:=bdn hbel 1
    go_upto_region 5 with fail
    go_region_held3 (fun w'=>True) (exact trivial)
     (first
      | (refine (K1.out _).mono ?_;rintro e w1 ⟨rfl,hb1⟩)
      | (refine step_push1 rfl _ _ 113 3 rfl Tryz.underlying113 (.int .i64 0) 1 8 infoInt rfl (by decide) w1 w.heap.size u5 acc.length (ncells acc) rfl (OwnN.bel hod hb1) #[.int .i64 (p : Int)] rfl (by simp [Value.oneCell']) rfl HA1.out HA2.out (bt hbd hb1).size ?_;intro v' w4 hown4 hb4))
    all_goals
     go_wp2
     have hown5 : OwnN w4 w.heap.size v' (acc ++ [p]):=by
      unfold OwnN
      rw [ncells_append,List.length_append]
      exact hown4
     go_roundw
     case rel=>exact ⟨k + 1,j + 2,acc ++ [p],by go_num,Lib.hid (by have:=hj.out;omega),hown5,by omega,by rw [List.length_append];simp;omega,E2,(bt hbd hb1).trans hb4⟩
     case measure=>simp [intOf];omega
  · have e1:=hQ.out
    have hlen : ((bl s).drop j).length < 2:=by rw [List.length_drop,HL.out];omega
    have er : unitsL big ((bl s).drop j) = []:=by
     match (bl s).drop j,hlen with
     | [],_=>rfl
     | [z],_=>rfl
     | z :: u :: r,h=>simp at h;omega
    rw [er,List.append_nil] at e1
    have E1:=Lib.hid e1
    clear e1
    clear hQ er hlen
    go_wp2
    go_ret
    exact ⟨_,rfl,by rw [← E1.out];exact hown,hbel⟩
end Go.Proofs.YtohbeinhlhgfiaaGreatDoor
