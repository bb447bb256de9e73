/- The reference's decoding of one byte a sign is the program's (layer 5). -/
import Derived.Test.YtogknbpmgflpgaaGreatDoorRc
import Derived.Test.YtogknbpmgflpgaaGreatDoorCk
namespace Go.Proofs.YtogknbpmgflpgaaGreatDoor
open Go.RowKit
set_option linter.unusedVariables false
set_option linter.unusedSimpArgs false

/-- a byte's sign. -/
def bySg (KG : List Bool × List Int) (b : UInt8) : Int := KG.2.getD b.toNat 0
def goodB (KG : List Bool × List Int) (n : Nat) : Bool := KG.1.getD n false && decide (0 ≤ KG.2.getD n 0 ∧ KG.2.getD n 0 ≤ 1114111 ∧ (KG.2.getD n 0 < 55296 ∨ 57343 < KG.2.getD n 0))
theorem good_all : (List.range 4).all (fun (c : Nat) => (fun KG => (List.range 256).all (goodB KG)) (kgM (setS (c : Int)))) = true := by decide +kernel
theorem good_at (c : Int) (h0 : 0 ≤ c) (h1 : c ≤ 3) (b : UInt8) : goodB (kgM (setS c)) b.toNat = true := by
  obtain ⟨n, rfl⟩ := Int.eq_ofNat_of_zero_le h0
  have h := List.all_eq_true.1 good_all n (by simp; omega)
  exact List.all_eq_true.1 h b.toNat (by have := b.toNat_lt; simp; omega)
theorem tok_good (KG : List Bool × List Int) (hG : ∀ b : UInt8, goodB KG b.toNat = true) (b : UInt8) (l : List UInt8) : tokS (sgS KG) (b :: l) = some (encR (bySg KG b), 1) ∧ Scal (bySg KG b) := by
  have h := hG b
  unfold goodB at h
  rw [Bool.and_eq_true, decide_eq_true_eq] at h
  refine ⟨?_, h.2⟩
  simp only [tokS, sgS, if_pos h.1]
  rfl
theorem run_good (KG : List Bool × List Int) (hG : ∀ b : UInt8, goodB KG b.toNat = true) : ∀ (l : List UInt8) (f n : Nat) (acc : List UInt8), l.length ≤ f → runT (tokS (sgS KG)) f l n acc = (acc ++ encL (l.map (bySg KG)), none) := by
  intro l
  induction l with
  | nil => intro f n acc _; rw [runT_nil]; simp [encL]
  | cons b l ih =>
    intro f n acc hf
    rw [List.length_cons] at hf
    obtain ⟨f, rfl⟩ : ∃ g, f = g + 1 := ⟨f - 1, by omega⟩
    rw [runT_some f _ n acc _ _ (by simp) (tok_good KG hG b l).1]
    simp only [List.drop_succ_cons, List.drop_zero]
    rw [ih f _ _ (by omega), List.map_cons, encL_cons, List.append_assoc]
theorem dec_good (c : Int) (h0 : 0 ≤ c) (h1 : c ≤ 3) (l : List UInt8) : decT (tokC c) l = (encL (l.map (bySg (kgM (setS c)))), none) := by
  rw [tokC_lo c h1]
  unfold decT
  rw [run_good _ (good_at c h0 h1) l _ _ _ (Nat.le_refl _)]
  simp
theorem ref5_all : (List.range 4).all (fun (c : Nat) => (fun KG => (List.range 256).all fun n => decide (refS5 (c : Int) n = KG.2.getD n 0)) (kgM (setS (c : Int)))) = true := by decide +kernel
theorem ref5_eq (c : Int) (h0 : 0 ≤ c) (h1 : c ≤ 3) (b : UInt8) : refS5 c b.toNat = bySg (kgM (setS c)) b := by
  obtain ⟨n, rfl⟩ := Int.eq_ofNat_of_zero_le h0
  have h := List.all_eq_true.1 (List.all_eq_true.1 ref5_all n (by simp; omega)) b.toNat (by have := b.toNat_lt; simp; omega)
  exact of_decide_eq_true h
end Go.Proofs.YtogknbpmgflpgaaGreatDoor
/- Walk: the reference's Decode of one byte a sign (layer 5). -/
namespace Go.Proofs.YtogknbpmgflpgaaGreatDoor
open Go.RowKit
set_option linter.unusedVariables false
set_option linter.unusedSimpArgs false

set_option maxRecDepth 100000 in
set_option maxHeartbeats 4000000 in
theorem refDec5_any (c : Int) (s : ByteArray) (w : World) (h0 : 0 ≤ c) (h1 : c ≤ 3) (hs : s.size ≤ 1048576) : Calls Tryz.prog 125 #[.int .i64 c, .string s] w fun e w' => e = .returned (.string ⟨(decT (tokC c) (bl s)).1.toArray⟩) ∧ Below w.heap.size w w' := by
  have HL : Hid ((bl s).length = s.size) := bl_length s
  obtain ⟨KG, hKG⟩ : ∃ KG, KG = kgM (setS c) := ⟨_, rfl⟩
  have hgd := good_at c h0 h1
  rw [dec_good c h0 h1, ← hKG]
  rw [← hKG] at hgd
  have K1 : Hid (∀ (x : UInt8) w, Calls Tryz.prog 162 #[.int .i64 c, .int .u8 (x.toNat : Int)] w fun e w' => e = .returned (.int .i32 (bySg KG x)) ∧ Below w.heap.size w w') := by
    intro x w
    have := sign5_any c x w h0 h1
    rw [ref5_eq c h0 h1, ← hKG] at this
    exact this
  have K2 : Hid (∀ (x : UInt8) w, Calls Tryz.prog 130 #[.int .i32 (bySg KG x)] w fun e w' => e = .returned (.string ⟨(encR (bySg KG x)).toArray⟩) ∧ Below w.heap.size w w') := by
    intro x w
    exact refBytes_any _ (tok_good KG hgd x []).2 w
  simp only
  clear hKG hgd
  go_enter Tryz.func125, Tryz.ntmps125
  go_wp2
  go_loopw [5, 6] (fun tv iv wr => ∃ (i : Nat) (T : ByteArray), iv = .int .i64 (i : Int) ∧ tv = .string T ∧ i ≤ s.size ∧ T.size ≤ 4 * i ∧ Hid (bl T = encL (((bl s).take i).map (bySg KG))) ∧ Below w.heap.size w wr) (fun _ iv _ => s.size - (intOf iv).toNat)
  case atStart => exact ⟨0, ⟨#[]⟩, rfl, rfl, Nat.zero_le _, by decide, Lib.hid (by simp [encL]), Below.refl _ _⟩
  case round =>
    obtain ⟨i, T, rfl, rfl, hi, hT, hE, hbel⟩ := hrel
    by_cases hlt : i < s.size
    · obtain ⟨x, hx⟩ := at_some (bl s) i (by rw [HL.out]; exact hlt)
      have X : ∀ h, s[i]'h = x := atB_of s i x hx
      have hxl := x.toNat_lt
      obtain ⟨U, hU⟩ : ∃ U : ByteArray, U = ⟨(encR (bySg KG x)).toArray⟩ := ⟨_, rfl⟩
      have hUl : U.size ≤ 4 := by rw [hU]; exact (encR_len _).2
      have k1 := fun w => K1.out x w
      have k2 := fun w => K2.out x w
      rw [← hU] at k2
      have hE2 : bl (T ++ U) = encL (((bl s).take (i + 1)).map (bySg KG)) := by
        have e1 : bl (T ++ U) = bl T ++ bl U := by simp [bl]
        rw [e1, hE.out, List.take_add_one, hx, List.map_append, encL_append, hU]
        simp [encL]
      have hTU : (T ++ U).size ≤ 4 * (i + 1) := by
        have e1 : bl (T ++ U) = bl T ++ bl U := by simp [bl]
        rw [← bl_length, e1, List.length_append, bl_length, bl_length]; omega
      generalize bySg KG x = p at *
      have K1' := Lib.hid k1
      have K2' := Lib.hid k2
      have HE2 := Lib.hid hE2
      have HU := Lib.hid hU
      have HTU := Lib.hid hTU
      clear k1 k2 hE2 hU hTU
      clear hx
      go_wp2_with (first
        | (go_at_call 162; refine (K1'.out _).mono ?_; rintro e w1 ⟨rfl, hb1⟩)
        | (go_at_call 130; refine (K2'.out _).mono ?_; rintro e w2 ⟨rfl, hb2⟩))
      go_roundw
      case rel => exact ⟨i + 1, T ++ U, by go_num, rfl, by omega, HTU.out, HE2, bt (bt hbel hb1) hb2⟩
      case measure => simp [intOf]; omega
    · have hi2 : i = s.size := by omega
      subst hi2
      have e1 := hE.out
      rw [List.take_of_length_le (by rw [HL.out]; exact Nat.le_refl _)] at e1
      have e2 : T = ⟨(encL ((bl s).map (bySg KG))).toArray⟩ := by rw [← e1]
      have E2 := Lib.hid e2
      clear e2
      clear e1 hE
      go_wp2
      go_ret
      exact ⟨by rw [← E2.out]; rfl, hbel⟩
end Go.Proofs.YtogknbpmgflpgaaGreatDoor
