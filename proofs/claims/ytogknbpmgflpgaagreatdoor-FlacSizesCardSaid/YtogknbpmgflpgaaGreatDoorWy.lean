/- A constant text of the program, found in a function's code by its place; an index into one. -/
import Derived.WalkSpells
import Derived.WalkLawsBesides
import Derived.Deep.QuietTactic
import Derived.BigQuiet
import Derived.Test.YtogknbpmgflpgaaGreatDoorWo
import Derived.Test.YtogknbpmgflpgaaGreatDoorBa
namespace Go.Proofs.YtogknbpmgflpgaaGreatDoor
open Go.RowKit
set_option linter.unusedVariables false
set_option linter.unusedSimpArgs false

/-- the operations of a region. -/
def regionOps : Code → Nat → Option (Array Oper)
  | .region i ops _, n => if i = n then some ops else none
  | .seq a b, n => match regionOps a n with | some r => some r | none => regionOps b n
  | .cond _ a b, n => match regionOps a n with | some r => some r | none => regionOps b n
  | .block _ b, n => regionOps b n
  | .loop b, n => regionOps b n
  | .scope b, n => regionOps b n
  | _, _ => none
/-- the constant text that an operation reads or assigns. -/
def strOf (o : Oper) : ByteArray := match o.op with
  | .index _ (.const (.string s)) _ => s
  | .assign (.const (.string s)) => s
  | _ => ByteArray.empty
/-- the constant text at a place of a function's code. -/
def constAt (f : Func) (region op : Nat) : ByteArray := match f.body with
  | some c => match regionOps c region with
    | some ops => match ops[op]? with | some o => strOf o | none => ByteArray.empty
    | none => ByteArray.empty
  | none => ByteArray.empty

section
variable {P : Program} {ops : Array Oper} {rest : List Oper} {o : Oper} {a : Act} {Q : Exit → Act → World → Prop} {w : World}
/-- an index into a constant text, the text known by another name. -/
theorem wpList_indexC {S : ByteArray} {x : Operand} {t : TypeId} (S' : ByteArray) (hgd : o.guard = none) (ho : o.op = Op.index t (.const (.string S)) x) (ht : P.underlying t = some .string)
    (hS : S = S') (k : IntKind) (ii : Int) (i : Nat) (hii : ii = (i : Int)) (b : UInt8) (hx : a.eval x = .int k ii) (hb : (bl S')[i]? = some b)
    (h : wpList P ops Q rest (a.put o.dst (.int .u8 (b.toNat : Int))) w) : wpList P ops Q (o :: rest) a w := by
  subst hS
  subst hii
  have hi : i < S.size := by
    have := (List.getElem?_eq_some_iff.1 hb).1
    rwa [bl_length] at this
  refine wpList_plain hgd fun K hK => ?_
  have hbb : S[i]'hi = b := by
    have hi' : i < (bl S).length := by rw [bl_length]; exact hi
    rw [List.getElem?_eq_getElem hi'] at hb
    exact Option.some.inj hb
  have hev : a.eval (.const (.string S)) = .string S := rfl
  have hrun : (Instr.index t (.string S) (.int k i)).run P w = .ok (.int .u8 (b.toNat : Int)) w := by
    rw [run_index_string _ t S k i ht]
    simp [hi, hbb]
  unfold Oper.wp
  simp [execOp, ho, hev, hx, hrun, Result.andThen]
  exact hK _ _ h
end
end Go.Proofs.YtogknbpmgflpgaaGreatDoor
/- Walk: wansung.group. -/
namespace Go.Proofs.YtogknbpmgflpgaaGreatDoor
open Go.RowKit
set_option linter.unusedVariables false
set_option linter.unusedSimpArgs false

noncomputable def membersB : ByteArray := constAt Tryz.f211 5 1
def dig (c : Int) : Int := if 97 ≤ c then c - 39 - 48 else c - 48
theorem members_size : membersB.size = 2793 := by kernel_rfl
noncomputable def memAt (i : Nat) : UInt8 := (bl membersB).getD i 0
theorem members_at (i : Nat) (h : i < 2793) : (bl membersB)[i]? = some (memAt i) := by
  have : i < (bl membersB).length := by rw [bl_length, members_size]; exact h
  unfold memAt
  rw [List.getElem?_eq_getElem this, List.getD_eq_getElem?_getD, List.getElem?_eq_getElem this]; rfl
theorem members_dig : (bl membersB).all (fun b => decide ((48 ≤ b.toNat ∧ b.toNat ≤ 57) ∨ (97 ≤ b.toNat ∧ b.toNat ≤ 102))) = true := by decide +kernel
theorem memAt_bd (i : Nat) (h : i < 2793) : (48 ≤ ((memAt i).toNat : Int) ∧ ((memAt i).toNat : Int) ≤ 57) ∨ (97 ≤ ((memAt i).toNat : Int) ∧ ((memAt i).toNat : Int) ≤ 102) := by
  have h1 := members_dig
  rw [List.all_eq_true] at h1
  have h2 := h1 (memAt i) (List.mem_of_getElem? (members_at i h))
  simp only [decide_eq_true_eq] at h2
  omega
/-- a group's digits, the first j of them, as a number. -/
noncomputable def grpF (g : Nat) : Nat → Int
  | 0 => 0
  | j + 1 => grpF g j * 16 + dig (memAt (g * 7 + j)).toNat
noncomputable def grp (g : Nat) : Int := grpF g 7
theorem dig_bd (i : Nat) (h : i < 2793) : 0 ≤ dig (memAt i).toNat ∧ dig (memAt i).toNat ≤ 15 := by
  have := memAt_bd i h
  unfold dig; split <;> omega
theorem grpF_bd (g j : Nat) (hg : g < 399) (hj : j ≤ 7) : 0 ≤ grpF g j ∧ grpF g j < 16 ^ j := by
  induction j with
  | zero => simp [grpF]
  | succ j ih =>
    have h1 := ih (by omega)
    have h2 := dig_bd (g * 7 + j) (by omega)
    have h3 : (16 : Int) ^ (j + 1) = 16 ^ j * 16 := by rw [Int.pow_succ]
    rw [grpF, h3]
    generalize (16 : Int) ^ j = q at *
    omega
theorem pow16 (j : Nat) (hj : j ≤ 7) : (16 : Int) ^ j ≤ 268435456 := by
  match j, hj with
  | 0, _ => decide
  | 1, _ => decide
  | 2, _ => decide
  | 3, _ => decide
  | 4, _ => decide
  | 5, _ => decide
  | 6, _ => decide
  | 7, _ => decide
theorem grp_bd (g : Nat) (hg : g < 399) : 0 ≤ grp g ∧ grp g < 268435456 := by
  have := grpF_bd g 7 hg (by omega); have := pow16 7 (by omega); unfold grp; omega
theorem wraps_u32 (n : Int) (h₀ : 0 ≤ n) (h₁ : n < 2 ^ 32) : IntKind.u32.wrap n = n := by rw [IntKind.wrap_u32]; omega
theorem u32_or4 (x y : Int) (hx₀ : 0 ≤ x) (hx : x % 16 = 0) (hx₁ : x < 4294967296) (hy₀ : 0 ≤ y) (hy : y < 16) : bits .or .u32 x y = x + y :=
  bits_join .u32 32 (by decide) wraps_u32 4 x y hx₀ hx hx₁ hy₀ hy (by omega)

set_option maxRecDepth 100000 in
set_option maxHeartbeats 2000000 in
theorem group_any (g : Nat) (w : World) (hg : g < 399) :
    Calls Tryz.prog 211 #[.int .i64 g] w fun e w' => e = .returned (.int .u32 (grp g)) ∧ w = w' := by
  have hS := members_size
  go_enter Tryz.func211, Tryz.ntmps211
  go_wp2
  go_loop [3, 4, 5] (fun n i c => ∃ j : Nat, j ≤ 7 ∧ i = .int .i64 ((g : Int) * 7 + j) ∧ n = .int .u32 (grpF g j)) (fun _ i _ => (g * 7 + 7 - intOf i).toNat)
  case atStart => exact ⟨0, by omega, by simp, rfl⟩
  case round =>
    obtain ⟨j, hj, rfl, rfl⟩ := hrel
    by_cases hlt : j < 7
    · have hm := members_at (g * 7 + j) (by omega)
      have hb := memAt_bd (g * 7 + j) (by omega)
      have hd := dig_bd (g * 7 + j) (by omega)
      have hs : grpF g (j + 1) = grpF g j * 16 + dig (memAt (g * 7 + j)).toNat := rfl
      obtain ⟨h0, h1⟩ := grpF_bd g j hg (by omega)
      have h2 := pow16 j (by omega)
      have h3 : grpF g j < 268435456 := by omega
      generalize memAt (g * 7 + j) = b at *
      have HM := Lib.hid hm
      have HS := Lib.hid hs
      clear hm hs h1 h2 hS
      generalize grpF g j = n at *
      go_wp2_with (with_reducible refine wpList_indexC membersB rfl rfl Tryz.underlying9 (by kernel_rfl) .i64 ((g : Int) * 7 + j) (g * 7 + j) (by omega) b rfl HM.out ?_)
      all_goals
        go_round
        case rel =>
          refine ⟨j + 1, by omega, by go_num, ?_⟩
          rw [HS.out]
          unfold dig at *
          congr 1
          first
            | (rw [if_pos (by omega)] at hd ⊢; exact u32_or4 _ _ (by omega) (by omega) (by omega) (by omega) (by omega))
            | (rw [if_neg (by omega)] at hd ⊢; exact u32_or4 _ _ (by omega) (by omega) (by omega) (by omega) (by omega))
        case measure => simp [intOf]; omega
    · have hj7 : j = 7 := by omega
      subst hj7
      go_wp2
      go_ret
      exact ⟨rfl, rfl⟩
end Go.Proofs.YtogknbpmgflpgaaGreatDoor
/- Walk: math/bits.OnesCount32. -/
namespace Go.Proofs.YtogknbpmgflpgaaGreatDoor
open Go.RowKit
set_option linter.unusedVariables false
set_option linter.unusedSimpArgs false

/-- how many bits of a byte are set. -/
def pop8 (i : Nat) : Nat := (List.range 8).countP fun k => i / 2 ^ k % 2 == 1
/-- how many bits of a number of 32 bits are set, byte by byte. -/
def pop32 (n : Nat) : Nat := pop8 (n / 16777216) + pop8 (n / 65536 % 256) + pop8 (n / 256 % 256) + pop8 (n % 256)
theorem pop8_le (i : Nat) : pop8 i ≤ 8 := by
  unfold pop8
  have := List.countP_le_length (p := fun k => i / 2 ^ k % 2 == 1) (l := List.range 8)
  simpa using this
theorem u32_mask8 (x : Int) (h₀ : 0 ≤ x) (h₁ : x < 4294967296) : bits .and .u32 x 255 = x % 256 := bits_mask .u32 32 (by decide) wraps_u32 8 (by decide) x h₀ h₁

set_option maxRecDepth 100000 in
set_option maxHeartbeats 2000000 in
theorem onesCount_any (n : Nat) (w : World) (hn : n < 4294967296) :
    Calls Tryz.prog 210 #[.int .u32 n] w fun e w' => e = .returned (.int .i64 (pop32 n)) ∧ Below w.heap.size w w' := by
  have hP : ∀ (i : Nat) (h : i < (⟨#[0, 1, 1, 2, 1, 2, 2, 3, 1, 2, 2, 3, 2, 3, 3, 4, 1, 2, 2, 3, 2, 3, 3, 4, 2, 3, 3, 4, 3, 4, 4, 5, 1, 2, 2, 3, 2, 3, 3, 4, 2, 3, 3, 4, 3, 4, 4, 5, 2, 3, 3, 4, 3, 4, 4, 5, 3, 4, 4, 5, 4, 5, 5, 6, 1, 2, 2, 3, 2, 3, 3, 4, 2, 3, 3, 4, 3, 4, 4, 5, 2, 3, 3, 4, 3, 4, 4, 5, 3, 4, 4, 5, 4, 5, 5, 6, 2, 3, 3, 4, 3, 4, 4, 5, 3, 4, 4, 5, 4, 5, 5, 6, 3, 4, 4, 5, 4, 5, 5, 6, 4, 5, 5, 6, 5, 6, 6, 7, 1, 2, 2, 3, 2, 3, 3, 4, 2, 3, 3, 4, 3, 4, 4, 5, 2, 3, 3, 4, 3, 4, 4, 5, 3, 4, 4, 5, 4, 5, 5, 6, 2, 3, 3, 4, 3, 4, 4, 5, 3, 4, 4, 5, 4, 5, 5, 6, 3, 4, 4, 5, 4, 5, 5, 6, 4, 5, 5, 6, 5, 6, 6, 7, 2, 3, 3, 4, 3, 4, 4, 5, 3, 4, 4, 5, 4, 5, 5, 6, 3, 4, 4, 5, 4, 5, 5, 6, 4, 5, 5, 6, 5, 6, 6, 7, 3, 4, 4, 5, 4, 5, 5, 6, 4, 5, 5, 6, 5, 6, 6, 7, 4, 5, 5, 6, 5, 6, 6, 7, 5, 6, 6, 7, 6, 7, 7, 8]⟩ : ByteArray).size), ((⟨#[0, 1, 1, 2, 1, 2, 2, 3, 1, 2, 2, 3, 2, 3, 3, 4, 1, 2, 2, 3, 2, 3, 3, 4, 2, 3, 3, 4, 3, 4, 4, 5, 1, 2, 2, 3, 2, 3, 3, 4, 2, 3, 3, 4, 3, 4, 4, 5, 2, 3, 3, 4, 3, 4, 4, 5, 3, 4, 4, 5, 4, 5, 5, 6, 1, 2, 2, 3, 2, 3, 3, 4, 2, 3, 3, 4, 3, 4, 4, 5, 2, 3, 3, 4, 3, 4, 4, 5, 3, 4, 4, 5, 4, 5, 5, 6, 2, 3, 3, 4, 3, 4, 4, 5, 3, 4, 4, 5, 4, 5, 5, 6, 3, 4, 4, 5, 4, 5, 5, 6, 4, 5, 5, 6, 5, 6, 6, 7, 1, 2, 2, 3, 2, 3, 3, 4, 2, 3, 3, 4, 3, 4, 4, 5, 2, 3, 3, 4, 3, 4, 4, 5, 3, 4, 4, 5, 4, 5, 5, 6, 2, 3, 3, 4, 3, 4, 4, 5, 3, 4, 4, 5, 4, 5, 5, 6, 3, 4, 4, 5, 4, 5, 5, 6, 4, 5, 5, 6, 5, 6, 6, 7, 2, 3, 3, 4, 3, 4, 4, 5, 3, 4, 4, 5, 4, 5, 5, 6, 3, 4, 4, 5, 4, 5, 5, 6, 4, 5, 5, 6, 5, 6, 6, 7, 3, 4, 4, 5, 4, 5, 5, 6, 4, 5, 5, 6, 5, 6, 6, 7, 4, 5, 5, 6, 5, 6, 6, 7, 5, 6, 6, 7, 6, 7, 7, 8]⟩ : ByteArray)[i]'h).toNat = pop8 i := by
    intro i h
    have h' : i < 256 := h
    have : ∀ j : Fin 256, ((⟨#[0, 1, 1, 2, 1, 2, 2, 3, 1, 2, 2, 3, 2, 3, 3, 4, 1, 2, 2, 3, 2, 3, 3, 4, 2, 3, 3, 4, 3, 4, 4, 5, 1, 2, 2, 3, 2, 3, 3, 4, 2, 3, 3, 4, 3, 4, 4, 5, 2, 3, 3, 4, 3, 4, 4, 5, 3, 4, 4, 5, 4, 5, 5, 6, 1, 2, 2, 3, 2, 3, 3, 4, 2, 3, 3, 4, 3, 4, 4, 5, 2, 3, 3, 4, 3, 4, 4, 5, 3, 4, 4, 5, 4, 5, 5, 6, 2, 3, 3, 4, 3, 4, 4, 5, 3, 4, 4, 5, 4, 5, 5, 6, 3, 4, 4, 5, 4, 5, 5, 6, 4, 5, 5, 6, 5, 6, 6, 7, 1, 2, 2, 3, 2, 3, 3, 4, 2, 3, 3, 4, 3, 4, 4, 5, 2, 3, 3, 4, 3, 4, 4, 5, 3, 4, 4, 5, 4, 5, 5, 6, 2, 3, 3, 4, 3, 4, 4, 5, 3, 4, 4, 5, 4, 5, 5, 6, 3, 4, 4, 5, 4, 5, 5, 6, 4, 5, 5, 6, 5, 6, 6, 7, 2, 3, 3, 4, 3, 4, 4, 5, 3, 4, 4, 5, 4, 5, 5, 6, 3, 4, 4, 5, 4, 5, 5, 6, 4, 5, 5, 6, 5, 6, 6, 7, 3, 4, 4, 5, 4, 5, 5, 6, 4, 5, 5, 6, 5, 6, 6, 7, 4, 5, 5, 6, 5, 6, 6, 7, 5, 6, 6, 7, 6, 7, 7, 8]⟩ : ByteArray)[j.val]'j.isLt).toNat = pop8 j.val := by decide +kernel
    exact this ⟨i, h'⟩
  have m1 : bits .and .u32 ((n : Int) / 65536) 255 = (n : Int) / 65536 % 256 := u32_mask8 _ (by omega) (by omega)
  have m2 : bits .and .u32 ((n : Int) / 256) 255 = (n : Int) / 256 % 256 := u32_mask8 _ (by omega) (by omega)
  have m3 : bits .and .u32 (n : Int) 255 = (n : Int) % 256 := u32_mask8 _ (by omega) (by omega)
  have b1 : (n : Int) / 16777216 < 256 := by omega
  have b2 : (n : Int) / 65536 % 256 < 256 := by omega
  have b3 : (n : Int) / 256 % 256 < 256 := by omega
  have b4 : (n : Int) % 256 < 256 := by omega
  go_enter Tryz.func210, Tryz.ntmps210
  go_wp2
  go_quiet (fail)
  go_wp2
  go_ret
  have q1 := pop8_le (n / 16777216)
  have q2 := pop8_le (n / 65536 % 256)
  have q3 := pop8_le (n / 256 % 256)
  have q4 := pop8_le (n % 256)
  refine ⟨ret_i ?_, bdn (Below.refl _ _) _⟩
  unfold pop32
  omega
end Go.Proofs.YtogknbpmgflpgaaGreatDoor
