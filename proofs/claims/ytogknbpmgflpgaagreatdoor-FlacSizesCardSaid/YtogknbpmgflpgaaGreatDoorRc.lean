/- Walks: the reference's signs of one byte (layer 5). -/
import Derived.Test.YtogknbpmgflpgaaGreatDoorUs
namespace Go.Proofs.YtogknbpmgflpgaaGreatDoor
open Go.RowKit
set_option linter.unusedVariables false
set_option linter.unusedSimpArgs false

set_option maxRecDepth 100000 in
set_option maxHeartbeats 4000000 in
theorem nth_any (s : ByteArray) (N : Nat) (p : Int) (w : World) (hs : s.size ≤ 1073741824) (hv : (scanL (bl s)).2 = none) (hp : (pts (bl s))[N]? = some p) :
    Calls Tryz.prog 200 #[.string s, .int .i64 N] w fun e w' => e = .returned (.int .i32 p) ∧ Below w.heap.size w w' := by
  have HL : Hid ((bl s).length = s.size) := bl_length s
  have K1 := Lib.hid (fun i w hi => refAt_any s i w hs hi)
  obtain ⟨P, hP⟩ : ∃ P, P = pts (bl s) := ⟨_, rfl⟩
  rw [← hP] at hp
  have hlen : P.length ≤ s.size := by rw [hP, ← HL.out]; exact pts_len _
  have hNP := (List.getElem?_eq_some_iff.1 hp).1
  have HP := Lib.hid hP
  have HV := Lib.hid hv
  have HPN := Lib.hid hp
  clear hP hv hp
  go_enter Tryz.func200, Tryz.ntmps200
  go_wp2
  go_loopw [1, 5] (fun nv iv wr => ∃ (f k m cnt : Nat), iv = .int .i64 (k : Int) ∧ nv = .int .i64 ((N : Int) - m) ∧ m ≤ N ∧ k ≤ s.size ∧ s.size - k ≤ f ∧ Hid ((scanF f ((bl s).drop k) k cnt).2 = none) ∧ Hid (pts ((bl s).drop k) = P.drop m) ∧ Below w.heap.size w wr) (fun _ iv _ => s.size - (intOf iv).toNat)
  case atStart => exact ⟨s.size, 0, 0, 0, rfl, by simp, Nat.zero_le _, Nat.zero_le _, by omega, Lib.hid (by have := HV.out; unfold scanL at this; rw [HL.out] at this; rw [List.drop_zero]; exact this), Lib.hid (by rw [List.drop_zero, List.drop_zero, HP.out]), Below.refl _ _⟩
  case round =>
    obtain ⟨f, k, m, cnt, rfl, rfl, hm, hk, hf, hQ, hPt, hbel⟩ := hrel
    have hne : (bl s).drop k ≠ [] := by
      intro h
      have h1 := hPt.out
      rw [h, pts_nil] at h1
      have h2 := congrArg List.length h1
      rw [List.length_drop] at h2
      simp only [List.length_nil] at h2
      omega
    have hlt : k < s.size := by
      rcases Nat.lt_or_ge k s.size with h | h
      · exact h
      · exact absurd (List.drop_of_length_le (by rw [HL.out]; exact h)) hne
    obtain ⟨f, rfl⟩ : ∃ g, f = g + 1 := ⟨f - 1, by omega⟩
    have hat := refAt_dec ((bl s).drop k) hne
    have k1 := fun w => K1.out k w hlt
    rw [hat] at k1
    have hb : badDec ((bl s).drop k) = false := by
      cases hb : badDec ((bl s).drop k) with
      | false => rfl
      | true =>
        have := hQ.out
        rw [scanF_bad f _ k _ hne hb] at this
        cases this
    rw [hb] at k1
    simp only [Bool.false_eq_true, if_false] at k1
    have e1 := hQ.out
    rw [scanF_step f _ k _ hne hb, List.drop_drop] at e1
    have e2 := hPt.out
    rw [pts_cons _ hne, List.drop_drop, List.drop_eq_getElem_cons (show m < P.length from by omega)] at e2
    have hdp := dec_pos ((bl s).drop k)
    have hdl := dec_le _ hne
    rw [List.length_drop, HL.out] at hdl
    rcases hd : dec ((bl s).drop k) with ⟨q, j⟩
    rw [hd] at k1 e1 e2 hdp hdl
    simp only at k1 e1 e2 hdp hdl
    obtain ⟨e3, e4⟩ := List.cons.inj e2
    have hj : ((j : Int) == 0) = false := by simp; omega
    by_cases hmN : m = N
    · subst hmN
      have hqp : (q : Int) = p := by
        have := HPN.out
        rw [List.getElem?_eq_getElem (show m < P.length from by omega)] at this
        rw [e3]
        exact Option.some.inj this
      have hz : ((m : Int) - m == 0) = true := by simp
      have K1' := Lib.hid k1
      have HQP := Lib.hid hqp
      have E3 := Lib.hid e3
      have E4 := Lib.hid e4
      have E1 := Lib.hid e1
      clear k1 hqp e3 e4 e1
      clear hat hb hne hQ hd e2
      go_wp2_with (go_at_call 97; refine (K1'.out _).mono ?_; rintro e w1 ⟨rfl, hb1⟩)
      go_ret
      exact ⟨ret_i HQP.out, bt hbel hb1⟩
    · have hz : ((N : Int) - m == 0) = false := by simp; omega
      have hw : IntKind.i64.wrap ((N : Int) - m - 1) = (N : Int) - m - 1 := by rw [IntKind.wrap_i64]; omega
      have hz2 : ¬ (N : Int) - m = 0 := by omega
      have K1' := Lib.hid k1
      have E3 := Lib.hid e3
      have E4 := Lib.hid e4
      have E1 := Lib.hid e1
      clear k1 e3 e4 e1
      clear hat hb hne hQ hd e2
      go_wp2_with (go_at_call 97; refine (K1'.out _).mono ?_; rintro e w1 ⟨rfl, hb1⟩)
      go_roundw
      case rel => exact ⟨f, k + j, m + 1, cnt + 1, by go_num, by go_num, by omega, by omega, by omega, E1, E4, bt hbel hb1⟩
      case measure => simp [intOf]; omega
/-- the constant text that a call takes first. -/
def strArg (o : Oper) : ByteArray := match o.op with
  | Op.call c => match (c.args : Array Operand)[0]? with
    | some (Operand.const (Value.string s)) => s
    | _ => ByteArray.empty
  | _ => ByteArray.empty
def constArg (f : Func) (region op : Nat) : ByteArray := match f.body with
  | some c => match regionOps c region with
    | some ops => match ops[op]? with | some o => strArg o | none => ByteArray.empty
    | none => ByteArray.empty
  | none => ByteArray.empty
noncomputable def frT : ByteArray := constArg Tryz.f162 8 2
noncomputable def otT : ByteArray := constArg Tryz.f162 11 2
noncomputable def ruT : ByteArray := constArg Tryz.f162 30 2
theorem frT_size : frT.size ≤ 1000 := by decide +kernel
theorem otT_size : otT.size ≤ 1000 := by decide +kernel
theorem ruT_size : ruT.size ≤ 1000 := by decide +kernel
theorem frT_ok : (scanL (bl frT)).2 = none := by decide +kernel
theorem otT_ok : (scanL (bl otT)).2 = none := by decide +kernel
theorem ruT_ok : (scanL (bl ruT)).2 = none := by decide +kernel
theorem frT_len : (pts (bl frT)).length = 48 := by decide +kernel
theorem otT_len : (pts (bl otT)).length = 16 := by decide +kernel
theorem ruT_len : (pts (bl ruT)).length = 128 := by decide +kernel
theorem nth_lit (S T : ByteArray) (h : S = T) (N : Nat) (z : Int) (p : Int) (w : World) (hz : z = (N : Int)) (hs : T.size ≤ 1000) (hv : (scanL (bl T)).2 = none) (hp : (pts (bl T))[N]? = some p) :
    Calls Tryz.prog 200 #[.string S, .int .i64 z] w fun e w' => e = .returned (.int .i32 p) ∧ Below w.heap.size w w' := by
  subst h
  subst hz
  exact nth_any S N p w (by omega) hv hp
/-- a byte's sign, as the document has it. -/
noncomputable def refS5 (c : Int) (n : Nat) : Int := if c = 0 ∨ n < 128 then (n : Int) else
  if c = 3 then (if n < 176 then 1040 + (n : Int) - 128 else if n < 224 then (pts (bl frT)).getD (n - 176) 0 else if n < 240 then 1088 + (n : Int) - 224 else (pts (bl otT)).getD (n - 240) 0) else
  if c = 2 ∧ n = 164 then 1108 else if c = 2 ∧ n = 166 then 1110 else if c = 2 ∧ n = 167 then 1111 else if c = 2 ∧ n = 173 then 1169 else if c = 2 ∧ n = 180 then 1028 else if c = 2 ∧ n = 182 then 1030 else if c = 2 ∧ n = 183 then 1031 else if c = 2 ∧ n = 189 then 1168 else (pts (bl ruT)).getD (n - 128) 0
set_option maxRecDepth 100000 in
set_option maxHeartbeats 8000000 in
theorem sign5_any (c : Int) (x : UInt8) (w : World) (h0 : 0 ≤ c) (h1 : c ≤ 3) : Calls Tryz.prog 162 #[.int .i64 c, .int .u8 (x.toNat : Int)] w fun e w' => e = .returned (.int .i32 (refS5 c x.toNat)) ∧ Below w.heap.size w w' := by
  have hxl := x.toNat_lt
  by_cases ca : x.toNat < 128
  · have he : refS5 c x.toNat = (x.toNat : Int) := by unfold refS5; rw [if_pos (.inr ca)]
    rw [he]
    clear he
    rcases (show c = 0 ∨ c = 1 ∨ c = 2 ∨ c = 3 from by omega) with rfl | rfl | rfl | rfl
    all_goals (
      go_enter Tryz.func162, Tryz.ntmps162
      go_wp2
      go_ret
      exact ⟨ret_i (by first | rfl | omega), Below.refl _ _⟩)
  · rcases (show c = 0 ∨ c = 1 ∨ c = 2 ∨ c = 3 from by omega) with rfl | rfl | rfl | rfl
    · have he : refS5 0 x.toNat = (x.toNat : Int) := by unfold refS5; rw [if_pos (.inl rfl)]
      rw [he]
      clear he
      go_enter Tryz.func162, Tryz.ntmps162
      go_wp2
      go_ret
      exact ⟨ret_i (by first | rfl | omega), Below.refl _ _⟩
    · skip
      obtain ⟨p, hp⟩ : ∃ p, (pts (bl ruT))[x.toNat - 128]? = some p := ⟨_, List.getElem?_eq_getElem (by rw [ruT_len]; omega)⟩
      have he : refS5 1 x.toNat = p := by
        unfold refS5; rw [if_neg (by omega), if_neg (by omega), if_neg (by omega), if_neg (by omega), if_neg (by omega), if_neg (by omega), if_neg (by omega), if_neg (by omega), if_neg (by omega), if_neg (by omega)]
        rw [List.getD, hp]; rfl
      rw [he]
      have kN := fun S (h : S = ruT) w => nth_lit S ruT h (x.toNat - 128) ((x.toNat : Int) - 128) p w (by omega) ruT_size ruT_ok hp
      have HE := Lib.hid he
      have KN := Lib.hid kN
      have HPP := Lib.hid hp
      clear he kN hp
      go_enter Tryz.func162, Tryz.ntmps162
      go_wp2_with (go_at_call 200; refine (KN.out _ (by kernel_rfl) _).mono ?_; rintro e w1 ⟨rfl, hb1⟩)
      go_ret
      exact ⟨rfl, hb1⟩
    · skip
      by_cases s0 : x.toNat = 164
      · have he : refS5 2 x.toNat = 1108 := by unfold refS5; rw [if_neg (by omega), if_neg (by omega), if_pos ⟨rfl, s0⟩]
        rw [he]
        have sI : (x.toNat : Int) = 164 := by omega
        obtain rfl : x = 164 := UInt8.toNat_inj.1 s0
        clear he sI s0
        go_enter Tryz.func162, Tryz.ntmps162
        go_wp2
        go_ret
        exact ⟨ret_i (by first | rfl | omega), Below.refl _ _⟩
      by_cases s1 : x.toNat = 166
      · have he : refS5 2 x.toNat = 1110 := by unfold refS5; rw [if_neg (by omega), if_neg (by omega), if_neg (by omega), if_pos ⟨rfl, s1⟩]
        rw [he]
        have sI : (x.toNat : Int) = 166 := by omega
        obtain rfl : x = 166 := UInt8.toNat_inj.1 s1
        clear he sI s1
        go_enter Tryz.func162, Tryz.ntmps162
        go_wp2
        go_ret
        exact ⟨ret_i (by first | rfl | omega), Below.refl _ _⟩
      by_cases s2 : x.toNat = 167
      · have he : refS5 2 x.toNat = 1111 := by unfold refS5; rw [if_neg (by omega), if_neg (by omega), if_neg (by omega), if_neg (by omega), if_pos ⟨rfl, s2⟩]
        rw [he]
        have sI : (x.toNat : Int) = 167 := by omega
        obtain rfl : x = 167 := UInt8.toNat_inj.1 s2
        clear he sI s2
        go_enter Tryz.func162, Tryz.ntmps162
        go_wp2
        go_ret
        exact ⟨ret_i (by first | rfl | omega), Below.refl _ _⟩
      by_cases s3 : x.toNat = 173
      · have he : refS5 2 x.toNat = 1169 := by unfold refS5; rw [if_neg (by omega), if_neg (by omega), if_neg (by omega), if_neg (by omega), if_neg (by omega), if_pos ⟨rfl, s3⟩]
        rw [he]
        have sI : (x.toNat : Int) = 173 := by omega
        obtain rfl : x = 173 := UInt8.toNat_inj.1 s3
        clear he sI s3
        go_enter Tryz.func162, Tryz.ntmps162
        go_wp2
        go_ret
        exact ⟨ret_i (by first | rfl | omega), Below.refl _ _⟩
      by_cases s4 : x.toNat = 180
      · have he : refS5 2 x.toNat = 1028 := by unfold refS5; rw [if_neg (by omega), if_neg (by omega), if_neg (by omega), if_neg (by omega), if_neg (by omega), if_neg (by omega), if_pos ⟨rfl, s4⟩]
        rw [he]
        have sI : (x.toNat : Int) = 180 := by omega
        obtain rfl : x = 180 := UInt8.toNat_inj.1 s4
        clear he sI s4
        go_enter Tryz.func162, Tryz.ntmps162
        go_wp2
        go_ret
        exact ⟨ret_i (by first | rfl | omega), Below.refl _ _⟩
      by_cases s5 : x.toNat = 182
      · have he : refS5 2 x.toNat = 1030 := by unfold refS5; rw [if_neg (by omega), if_neg (by omega), if_neg (by omega), if_neg (by omega), if_neg (by omega), if_neg (by omega), if_neg (by omega), if_pos ⟨rfl, s5⟩]
        rw [he]
        have sI : (x.toNat : Int) = 182 := by omega
        obtain rfl : x = 182 := UInt8.toNat_inj.1 s5
        clear he sI s5
        go_enter Tryz.func162, Tryz.ntmps162
        go_wp2
        go_ret
        exact ⟨ret_i (by first | rfl | omega), Below.refl _ _⟩
      by_cases s6 : x.toNat = 183
      · have he : refS5 2 x.toNat = 1031 := by unfold refS5; rw [if_neg (by omega), if_neg (by omega), if_neg (by omega), if_neg (by omega), if_neg (by omega), if_neg (by omega), if_neg (by omega), if_neg (by omega), if_pos ⟨rfl, s6⟩]
        rw [he]
        have sI : (x.toNat : Int) = 183 := by omega
        obtain rfl : x = 183 := UInt8.toNat_inj.1 s6
        clear he sI s6
        go_enter Tryz.func162, Tryz.ntmps162
        go_wp2
        go_ret
        exact ⟨ret_i (by first | rfl | omega), Below.refl _ _⟩
      by_cases s7 : x.toNat = 189
      · have he : refS5 2 x.toNat = 1168 := by unfold refS5; rw [if_neg (by omega), if_neg (by omega), if_neg (by omega), if_neg (by omega), if_neg (by omega), if_neg (by omega), if_neg (by omega), if_neg (by omega), if_neg (by omega), if_pos ⟨rfl, s7⟩]
        rw [he]
        have sI : (x.toNat : Int) = 189 := by omega
        obtain rfl : x = 189 := UInt8.toNat_inj.1 s7
        clear he sI s7
        go_enter Tryz.func162, Tryz.ntmps162
        go_wp2
        go_ret
        exact ⟨ret_i (by first | rfl | omega), Below.refl _ _⟩
      obtain ⟨p, hp⟩ : ∃ p, (pts (bl ruT))[x.toNat - 128]? = some p := ⟨_, List.getElem?_eq_getElem (by rw [ruT_len]; omega)⟩
      have he : refS5 2 x.toNat = p := by
        unfold refS5; rw [if_neg (by omega), if_neg (by omega), if_neg (by omega), if_neg (by omega), if_neg (by omega), if_neg (by omega), if_neg (by omega), if_neg (by omega), if_neg (by omega), if_neg (by omega)]
        rw [List.getD, hp]; rfl
      rw [he]
      have kN := fun S (h : S = ruT) w => nth_lit S ruT h (x.toNat - 128) ((x.toNat : Int) - 128) p w (by omega) ruT_size ruT_ok hp
      have HE := Lib.hid he
      have KN := Lib.hid kN
      have HPP := Lib.hid hp
      clear he kN hp
      go_enter Tryz.func162, Tryz.ntmps162
      go_wp2_with (go_at_call 200; refine (KN.out _ (by kernel_rfl) _).mono ?_; rintro e w1 ⟨rfl, hb1⟩)
      go_ret
      exact ⟨rfl, hb1⟩
    · by_cases r1 : x.toNat < 176
      · have he : refS5 3 x.toNat = 1040 + (x.toNat : Int) - 128 := by unfold refS5; rw [if_neg (by omega), if_pos rfl, if_pos r1]
        rw [he]
        clear he
        go_enter Tryz.func162, Tryz.ntmps162
        go_wp2
        go_ret
        exact ⟨ret_i (by first | rfl | omega), Below.refl _ _⟩
      · by_cases r2 : x.toNat < 224
        · skip
          obtain ⟨p, hp⟩ : ∃ p, (pts (bl frT))[x.toNat - 176]? = some p := ⟨_, List.getElem?_eq_getElem (by rw [frT_len]; omega)⟩
          have he : refS5 3 x.toNat = p := by
            unfold refS5; rw [if_neg (by omega), if_pos rfl, if_neg r1, if_pos r2]
            rw [List.getD, hp]; rfl
          rw [he]
          have kN := fun S (h : S = frT) w => nth_lit S frT h (x.toNat - 176) ((x.toNat : Int) - 176) p w (by omega) frT_size frT_ok hp
          have HE := Lib.hid he
          have KN := Lib.hid kN
          have HPP := Lib.hid hp
          clear he kN hp
          go_enter Tryz.func162, Tryz.ntmps162
          go_wp2_with (go_at_call 200; refine (KN.out _ (by kernel_rfl) _).mono ?_; rintro e w1 ⟨rfl, hb1⟩)
          go_ret
          exact ⟨rfl, hb1⟩
        · by_cases r3 : x.toNat < 240
          · have he : refS5 3 x.toNat = 1088 + (x.toNat : Int) - 224 := by unfold refS5; rw [if_neg (by omega), if_pos rfl, if_neg r1, if_neg r2, if_pos r3]
            rw [he]
            clear he
            go_enter Tryz.func162, Tryz.ntmps162
            go_wp2
            go_ret
            exact ⟨ret_i (by first | rfl | omega), Below.refl _ _⟩
          · skip
            obtain ⟨p, hp⟩ : ∃ p, (pts (bl otT))[x.toNat - 240]? = some p := ⟨_, List.getElem?_eq_getElem (by rw [otT_len]; omega)⟩
            have he : refS5 3 x.toNat = p := by
              unfold refS5; rw [if_neg (by omega), if_pos rfl, if_neg r1, if_neg r2, if_neg r3]
              rw [List.getD, hp]; rfl
            rw [he]
            have kN := fun S (h : S = otT) w => nth_lit S otT h (x.toNat - 240) ((x.toNat : Int) - 240) p w (by omega) otT_size otT_ok hp
            have HE := Lib.hid he
            have KN := Lib.hid kN
            have HPP := Lib.hid hp
            clear he kN hp
            go_enter Tryz.func162, Tryz.ntmps162
            go_wp2_with (go_at_call 200; refine (KN.out _ (by kernel_rfl) _).mono ?_; rintro e w1 ⟨rfl, hb1⟩)
            go_ret
            exact ⟨rfl, hb1⟩
end Go.Proofs.YtogknbpmgflpgaaGreatDoor
