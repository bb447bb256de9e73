/- Walks: the reference's Unit, Units (layer 3). -/
import Derived.Test.YtogknbpmgflpgaaGreatDoorUs
import Derived.Test.YtogknbpmgflpgaaGreatDoorWi
import Derived.Deep.RegionHeld3
namespace Go.Proofs.YtogknbpmgflpgaaGreatDoor
open Go.RowKit
set_option linter.unusedVariables false
set_option linter.unusedSimpArgs false

theorem infoInt : (Tryz.prog.info? 3).map (fun i => (i.zero, i.size, i.bytes)) = some (some (.int .i64 0), 1, 8) := by kernel_rfl
def ncells (l : List Int) : List Value := l.map fun n => Value.int .i64 n
theorem ncells_append (l m : List Int) : ncells (l ++ m) = ncells l ++ ncells m := by simp [ncells]
/-- the slice v owns the numbers l, in a block from B on. -/
def OwnN (w : World) (B : Nat) (v : Value) (l : List Int) : Prop := w.ownsRow B 3 1 v l.length (ncells l)
theorem OwnN.row {w : World} {B : Nat} {v : Value} {l : List Int} (h : OwnN w B v l) : Row w v l.length (ncells l) := row_owns h
theorem OwnN.bel {w w' : World} {B : Nat} {v : Value} {l : List Int} (h : OwnN w B v l) (hb : Below w.heap.size w w') : OwnN w' B v l := orow_bel h hb
section
variable {P : Program} {ops : Array Oper} {o : Oper} {a : Act} {K : Act → World → Prop} {Q : Exit → Act → World → Prop} {E : Prop}
/-- append of one element, as a step of a region that draws. -/
theorem step_push1 (hgd : o.guard = none) (s x : Operand) (t e : TypeId) (ho : o.op = .call { callee := .builtin .append, args := #[s, x], argTypes := #[t, t] }) (ht : P.underlying t = some (.slice e))
    (z : Value) (size bytes : Nat) (hi : (P.info? e).map (fun i => (i.zero, i.size, i.bytes)) = some (some z, size, bytes)) (hzs : z.cells.size = size) (hsz : 0 < size)
    (W : World) (B : Nat) (v : Value) (n : Nat) (cs : List Value) (hs : a.eval s = v) (hown : W.ownsRow B e size v n cs) (news : Array Value) (hnl : news.size = size) (h1 : ∀ u ∈ news.toList, u.oneCell' = true)
    (hx : a.eval x = .slice (some ⟨W.heap.size, 0, none⟩) 1 1) (hlen : n < 70368744177664) (hby : (n + 1) * bytes ≤ 140737488355328) (hB : B ≤ W.heap.size)
    (h : ∀ v' w', w'.ownsRow B e size v' (n + 1) (cs ++ news.toList) → Below B W w' → K (a.put o.dst v') w') :
    if Region.wanted o (yielded ops a.tmps) = true then Oper.wp P o a (W.alloc (.cells news e)) K Q else E := by
  have hw : Region.wanted o (yielded ops a.tmps) = true := by simp [Region.wanted, hgd]
  rw [if_pos hw]
  obtain ⟨i0, hi, hz0, hz1, hz2⟩ := info_parts hi
  have hnw : ∀ j u, news.toList[j]? = some u → (W.alloc (.cells news e)).cell? ((⟨W.heap.size, 0, none⟩ : Addr).add j) = some u := by
    intro j u hj
    have ea : (⟨W.heap.size, 0, none⟩ : Addr).add j = ⟨W.heap.size, j, none⟩ := by
      by_cases h0 : j = 0
      · subst h0; rfl
      · simp [Addr.add, h0]
    rw [ea, World.cell?_alloc_new]
    simpa using hj
  obtain ⟨v', w', hrun, r1, r2, _⟩ := run_append_own (P := P) (W.alloc (.cells news e)) B t o.type e i0 z size bytes ht hi hz0 hz1 hz2 hzs hsz v n cs (orow_bel hown ((Below.refl _ _).alloc (Nat.le_refl _) _)) ⟨W.heap.size, 0, none⟩ 1 1 news.toList (by simp [hnl]) hnw h1 (by unfold maxLen; omega) hby (by simp; omega)
  unfold Oper.wp
  simp [execOp, ho, resolve, invoke, builtin, hs, hx, hrun, Result.andThen]
  exact h v' w' r1 (((Below.refl _ _).alloc hB _).trans (orow_below (orow_bel hown ((Below.refl _ _).alloc (Nat.le_refl _) _)) r2 (by simp; omega)))
end
/-- the units of a text. -/
def unitsL (big : Bool) : List UInt8 → List Int
  | x :: y :: r => unitI x y big :: unitsL big r
  | _ => []

set_option maxHeartbeats 1000000 in
theorem refUnit_any (x y : UInt8) (big : Bool) (w : World) :
    Calls Tryz.prog 201 #[.int .u8 (x.toNat : Int), .int .u8 (y.toNat : Int), .bool big] w fun e w' => e = .returned (.int .i64 (unitI x y big)) ∧ Below w.heap.size w w' := by
  have hxl := x.toNat_lt
  have hyl := y.toNat_lt
  have a1 : IntKind.i64.wrap (x.toNat : Int) = x.toNat := by rw [wraps_i64] <;> omega
  have a2 : IntKind.i64.wrap (y.toNat : Int) = y.toNat := by rw [wraps_i64] <;> omega
  have e6 : IntKind.i64.wrap ((x.toNat : Int) * 256) = (x.toNat : Int) * 256 := by rw [wraps_i64] <;> omega
  have e7 : IntKind.i64.wrap ((y.toNat : Int) * 256) = (y.toNat : Int) * 256 := by rw [wraps_i64] <;> omega
  have e8 : IntKind.i64.wrap ((x.toNat : Int) * 256 + y.toNat) = (x.toNat : Int) * 256 + y.toNat := by rw [wraps_i64] <;> omega
  have e9 : IntKind.i64.wrap ((y.toNat : Int) * 256 + x.toNat) = (y.toNat : Int) * 256 + x.toNat := by rw [wraps_i64] <;> omega
  cases big
  · go_enter Tryz.func201, Tryz.ntmps201
    go_wp2
    go_ret
    exact ⟨ret_i (by unfold unitI; simp), Below.refl _ _⟩
  · go_enter Tryz.func201, Tryz.ntmps201
    go_wp2
    go_ret
    exact ⟨ret_i (by unfold unitI; simp), Below.refl _ _⟩

set_option maxRecDepth 100000 in
set_option maxHeartbeats 4000000 in
theorem refUnits_any (s : ByteArray) (big : Bool) (w : World) (hs : s.size ≤ 1073741824) :
    Calls Tryz.prog 163 #[.string s, .bool big] w fun e w' => ∃ v, e = .returned v ∧ OwnN w' w.heap.size v (unitsL big (bl s)) ∧ Below w.heap.size w w' := by
  have HL : Hid ((bl s).length = s.size) := bl_length s
  obtain ⟨U, hU⟩ : ∃ U, U = unitsL big (bl s) := ⟨_, rfl⟩
  rw [← hU]
  have HU := Lib.hid hU
  clear hU
  go_enter Tryz.func163, Tryz.ntmps163
  go_wp2
  go_loopw [5, 6] (fun v iv wr => ∃ (k j : Nat) (acc : List Int), iv = .int .i64 ((j : Int) + 1) ∧ Hid (j = 2 * k) ∧ OwnN wr w.heap.size v acc ∧ j ≤ s.size ∧ acc.length = k ∧ Hid (acc ++ unitsL big ((bl s).drop j) = U) ∧ Below w.heap.size w wr) (fun _ iv _ => s.size + 1 - (intOf iv).toNat)
  case atStart => exact ⟨0, 0, [], rfl, Lib.hid rfl, World.ownsRow_nil _ _ _ _, Nat.zero_le _, rfl, Lib.hid (by rw [HU.out]; rfl), Below.refl _ _⟩
  case round =>
    obtain ⟨k, j, acc, rfl, hj, hown, hk, hacc, hQ, hbel⟩ := hrel
    by_cases hlt : j + 1 < s.size
    · obtain ⟨x, y, hx, hy, hd⟩ := drop_two (l := bl s) (k := j) (by rw [HL.out]; exact hlt)
      have k1 := fun w => refUnit_any x y big w
      have X : ∀ h, s[j]'h = x := atB_of s _ x hx
      have Y : ∀ h, s[j + 1]'h = y := atB_of s _ y hy
      have e1 := hQ.out
      rw [hd, unitsL] at e1
      have e2 : (acc ++ [unitI x y big]) ++ unitsL big ((bl s).drop (j + 2)) = U := by rw [List.append_assoc]; exact e1
      generalize unitI x y big = p at *
      have K1 := Lib.hid k1
      have E2 := Lib.hid e2
      clear k1 e2
      clear hx hy hd e1 hQ
      have hj0 : j < s.size := by omega
      have HA1 : Hid (acc.length < 70368744177664) := Lib.hid (by have := hj.out; omega)
      have HA2 : Hid ((acc.length + 1) * 8 ≤ 140737488355328) := Lib.hid (by have := hj.out; omega)
      have i0 : IntKind.i64.wrap ((j : Int) + 1 - 1) = j := by rw [wraps_i64] <;> omega
      have i1 : IntKind.i64.wrap (j : Int) = j := by rw [wraps_i64] <;> omega
      have i2 : (0 : Int) ≤ (j : Int) + 1 := by omega
      have i3 : ((j : Int) + 1).toNat = j + 1 := by omega
      have i4 : IntKind.i64.wrap ((j : Int) + 1 + 2) = (j : Int) + 1 + 2 := by rw [wraps_i64] <;> omega
      have hod : OwnN wr.drew w.heap.size u5 acc := hown.bel (Below.refl _ _).drew
      have hbd := bdn hbel 1
      go_upto_region 5 with fail
      go_region_held3 (fun w' => True) (exact trivial)
        (first
          | (refine (K1.out _).mono ?_; rintro e w1 ⟨rfl, hb1⟩)
          | (refine step_push1 rfl _ _ 196 3 rfl Tryz.underlying196 (.int .i64 0) 1 8 infoInt rfl (by decide) w1 w.heap.size u5 acc.length (ncells acc) rfl (OwnN.bel hod hb1) #[.int .i64 (p : Int)] rfl (by simp [Value.oneCell']) rfl HA1.out HA2.out (bt hbd hb1).size ?_; intro v' w4 hown4 hb4))
      all_goals
       go_wp2
       have hown5 : OwnN w4 w.heap.size v' (acc ++ [p]) := by
         unfold OwnN
         rw [ncells_append, List.length_append]
         exact hown4
       go_roundw
       case rel => exact ⟨k + 1, j + 2, acc ++ [p], by go_num, Lib.hid (by have := hj.out; omega), hown5, by omega, by rw [List.length_append]; simp; omega, E2, (bt hbd hb1).trans hb4⟩
       case measure => simp [intOf]; omega
    · have e1 := hQ.out
      have hlen : ((bl s).drop j).length < 2 := by rw [List.length_drop, HL.out]; omega
      have er : unitsL big ((bl s).drop j) = [] := by
        match (bl s).drop j, hlen with
        | [], _ => rfl
        | [z], _ => rfl
        | z :: u :: r, h => simp at h; omega
      rw [er, List.append_nil] at e1
      have E1 := Lib.hid e1
      clear e1
      clear hQ er hlen
      go_wp2
      go_ret
      exact ⟨_, rfl, by rw [← E1.out]; exact hown, hbel⟩
end Go.Proofs.YtogknbpmgflpgaaGreatDoor
