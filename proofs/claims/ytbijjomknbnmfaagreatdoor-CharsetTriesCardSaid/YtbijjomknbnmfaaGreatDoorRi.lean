/- Walks: the reference's signs of two bytes (layer 7). -/
import Derived.Test.YtbijjomknbnmfaaGreatDoorRc
import Derived.Test.YtbijjomknbnmfaaGreatDoorRh
namespace Go.Proofs.YtbijjomknbnmfaaGreatDoor
open Go.RowKit
set_option linter.unusedVariables false
set_option linter.unusedSimpArgs false

theorem digit_any (s : Int) (w : World) (h0 : 0 ≤ s) (h1 : s ≤ 255) :
    Calls Tryz.prog 147 #[.int .u8 s] w fun e w' => e = .returned (.int .i64 (dig s)) ∧ w = w' := by
  go_enter Tryz.func147, Tryz.ntmps147
  go_wp2
  all_goals go_ret
  all_goals (refine ⟨ret_i ?_, rfl⟩; unfold dig; split <;> omega)
theorem second7_any (s : Int) (w : World) (h0 : -1000 ≤ s) (h1 : s ≤ 1000) :
    Calls Tryz.prog 140 #[.int .i64 s] w fun e w' => e = .returned (.int .i64 (numberM s)) ∧ w = w' := by
  go_enter Tryz.func140, Tryz.ntmps140
  go_wp2
  all_goals go_ret
  all_goals (refine ⟨ret_i ?_, rfl⟩; unfold numberM; omega)
def spanW (b f l p : Int) : Int := if b < f ∨ l < b then 0 else p + (b - f)
theorem span7_any (b f l p : Int) (w : World) (hb0 : 0 ≤ b) (hb1 : b ≤ 1000) (hf0 : 0 ≤ f) (hf1 : f ≤ 1000) (hl0 : 0 ≤ l) (hl1 : l ≤ 1000) (hp0 : 0 ≤ p) (hp1 : p ≤ 100000) :
    Calls Tryz.prog 187 #[.int .i64 b, .int .i64 f, .int .i64 l, .int .i32 p] w fun e w' => e = .returned (.int .i32 (spanW b f l p)) ∧ w = w' := by
  go_enter Tryz.func187, Tryz.ntmps187
  go_wp2
  all_goals go_ret
  all_goals (refine ⟨ret_i ?_, rfl⟩; unfold spanW; split <;> omega)
set_option maxRecDepth 100000 in
set_option maxHeartbeats 2000000 in
theorem in_any (n : Nat) (w : World) (hn : n < 11172) :
    Calls Tryz.prog 97 #[.int .i64 n] w fun e w' => e = .returned (.bool (inN n)) ∧ w = w' := by
  obtain ⟨i, hi⟩ : ∃ i, i = n / 28 * 7 + 6 - n % 28 / 4 := ⟨_, rfl⟩
  have hi' : i < 2793 := by omega
  have hm := members_at i hi'
  have hd := nib_dig i hi'
  have hl := nib_lt i hi'
  have hr : inN n = decide (nib i / 2 ^ (n % 28 % 4) % 2 = 1) := by unfold inN; rw [hi]
  rw [hr]
  obtain ⟨D, hD⟩ : ∃ D, D = nib i := ⟨_, rfl⟩
  rw [← hD] at hd hl ⊢
  have hx := (memAt i).toNat_lt
  have c1 := fun w => digit_any ((memAt i).toNat : Int) w (by omega) (by omega)
  rw [hd] at c1
  have hk3 : n % 28 % 4 ≤ 3 := by omega
  obtain ⟨B, hB⟩ : ∃ B, B = n % 28 % 4 := ⟨_, rfl⟩
  have hBi : (n : Int) % 28 % 4 = (B : Int) := by omega
  rw [← hB] at hk3 ⊢
  have HB := Lib.hid hBi
  obtain ⟨r, hr2⟩ : ∃ r, r = decide (D / 2 ^ B % 2 = 1) := ⟨_, rfl⟩
  rw [← hr2]
  have HR2 := Lib.hid hr2
  clear hr2
  clear hr hd hD hi' hB hBi
  generalize memAt i = x at *
  have HM := Lib.hid hm
  have C1 := Lib.hid c1
  have HI := Lib.hid hi
  clear hm c1 hi
  go_enter Tryz.func97, Tryz.ntmps97
  go_wp2_with (first
    | (with_reducible refine wpList_indexC membersB rfl rfl Tryz.underlying9 (by kernel_rfl) .i64 _ i (by have := HI.out; omega) x rfl HM.out ?_)
    | (go_at_call 147; refine (C1.out _).mono ?_; rintro e w1 ⟨rfl, rfl⟩))
  go_loop [4, 5] (fun d i => ∃ j E : Nat, j ≤ B ∧ i = .int .i64 (j : Int) ∧ d = .int .i64 (E : Int) ∧ E ≤ 15 ∧ Hid (E = D / 2 ^ j)) (fun _ i => (B - intOf i).toNat)
  case atStart => exact ⟨0, D, Nat.zero_le _, rfl, rfl, by omega, Lib.hid (by simp)⟩
  case round =>
    obtain ⟨j, E, hj, rfl, rfl, hE0, hE⟩ := hrel
    have hs : Hid (E / 2 = D / 2 ^ (j + 1)) := Lib.hid (by rw [hE.out, Nat.pow_succ, Nat.div_div_eq_div_mul])
    have HBo := HB.out
    by_cases hlt : j < B
    · go_wp2
      go_round
      case rel => exact ⟨j + 1, E / 2, by omega, by go_num, by go_num, by omega, hs⟩
      case measure => simp [intOf]; omega
    · have hjB : j = B := by omega
      subst hjB
      go_wp2
      go_ret
      exact ⟨ret_b (by rw [HR2.out, ← hE.out, Bool.eq_iff_iff, beq_iff_eq, decide_eq_true_eq]; omega), rfl⟩
set_option maxRecDepth 100000 in
set_option maxHeartbeats 2000000 in
theorem kth_any (k : Int) (within : Bool) (w : World) (hk : k < 100000) (hk0 : -100000 < k) :
    Calls Tryz.prog 141 #[.int .i64 k, .bool within] w fun e w' => e = .returned (.int .i32 (kthM k within)) ∧ w = w' := by
  by_cases hneg : k < 0
  · have e : kthM k within = 0 := by unfold kthM; rw [if_pos hneg]
    rw [e]
    go_enter Tryz.func141, Tryz.ntmps141
    go_wp2
    go_ret
    exact ⟨rfl, rfl⟩
  · obtain ⟨k, rfl⟩ := Int.eq_ofNat_of_zero_le (show 0 ≤ k from by omega)
    obtain ⟨F, hF⟩ : ∃ F, F = 11172 := ⟨_, rfl⟩
    obtain ⟨R, hR⟩ : ∃ R, R = kthF within F 0 k := ⟨_, rfl⟩
    have e : kthM k within = R := by unfold kthM; rw [if_neg hneg, Int.toNat_natCast, hR, hF]
    rw [e]
    have HF : Hid (0 + F = 11172) := Lib.hid (by omega)
    clear e hF
    have C1 := Lib.hid (fun n w hn => in_any n w hn)
    have HR := Lib.hid hR
    clear hR
    go_enter Tryz.func141, Tryz.ntmps141
    go_wp2
    go_loopw [0, 5] (fun kv nv wr => ∃ (f n j : Nat), kv = .int .i64 (j : Int) ∧ nv = .int .i64 (n : Int) ∧ Hid (n + f = 11172) ∧ n ≤ 11172 ∧ j ≤ 100000 ∧ Hid (kthF within f n j = R) ∧ wr = w) (fun _ nv _ => (11172 - intOf nv).toNat)
    case atStart => exact ⟨F, 0, k, rfl, rfl, HF, by omega, by omega, Lib.hid HR.out.symm, rfl⟩
    case round =>
      obtain ⟨f, n, j, rfl, rfl, hf, hn, hj, hQ, rfl⟩ := hrel
      by_cases hlt : n < 11172
      · obtain ⟨f, rfl⟩ : ∃ g, f = g + 1 := ⟨f - 1, by have := hf.out; omega⟩
        have hf1 : Hid (n + 1 + f = 11172) := Lib.hid (by have := hf.out; omega)
        have k1 := fun w => C1.out n w hlt
        have hq := hQ.out
        rw [kthF] at hq
        clear hQ
        have hI : (n : Int) < 11172 := by omega
        have hjI : (j : Int) ≤ 100000 := by omega
        clear hlt hn hj hk hk0 hneg
        generalize inN n = b at *
        by_cases hz : j = 0
        · subst hz
          simp only [if_true] at hq
          cases b <;> cases within
          all_goals (simp only [if_true, if_false, reduceCtorEq] at hq)
          all_goals
            have K1 := Lib.hid k1
            have HQ := Lib.hid hq
            clear k1 hq
            first
              | (go_wp2_with (go_at_call 97; refine (K1.out _).mono ?_; rintro e w1 ⟨rfl, rfl⟩)
                 go_ret
                 exact ⟨ret_i HQ.out, rfl⟩)
              | (go_wp2_with (go_at_call 97; refine (K1.out _).mono ?_; rintro e w1 ⟨rfl, rfl⟩)
                 go_roundw
                 case rel => exact ⟨f, n + 1, 0, rfl, by go_num, hf1, by omega, by omega, HQ, by trivial⟩
                 case measure => simp [intOf]; omega)
        · have hzz : ¬ (j : Int) = 0 := by omega
          simp only [if_neg hz] at hq
          cases b <;> cases within
          all_goals (simp only [if_true, if_false, reduceCtorEq] at hq)
          all_goals
            have K1 := Lib.hid k1
            have HQ := Lib.hid hq
            clear k1 hq
            go_wp2_with (go_at_call 97; refine (K1.out _).mono ?_; rintro e w1 ⟨rfl, rfl⟩)
            go_roundw
            case rel => first
              | exact ⟨f, n + 1, j - 1, by go_num, by go_num, hf1, by omega, by omega, HQ, by trivial⟩
              | exact ⟨f, n + 1, j, rfl, by go_num, hf1, by omega, by omega, HQ, by trivial⟩
            case measure => simp [intOf]; omega
      · have hI : ¬ (n : Int) < 11172 := by omega
        have hf0 : f = 0 := by have := hf.out; omega
        subst hf0
        clear hlt hn hf hj
        go_wp2
        go_ret
        exact ⟨ret_i (by rw [← hQ.out]; rfl), rfl⟩
noncomputable def a1T : ByteArray := constArg Tryz.f142 3 2
noncomputable def a2T : ByteArray := constArg Tryz.f142 6 2
noncomputable def a6T : ByteArray := constArg Tryz.f142 19 2
theorem a1T_len : a1T.size ≤ 1000 ∧ (scanL (bl a1T)).2 = none ∧ (pts (bl a1T)).length = 94 := by refine ⟨?_, ?_, ?_⟩ <;> decide +kernel
theorem a2T_len : a2T.size ≤ 1000 ∧ (scanL (bl a2T)).2 = none ∧ (pts (bl a2T)).length = 71 := by refine ⟨?_, ?_, ?_⟩ <;> decide +kernel
theorem a6T_len : a6T.size ≤ 1000 ∧ (scanL (bl a6T)).2 = none ∧ (pts (bl a6T)).length = 68 := by refine ⟨?_, ?_, ?_⟩ <;> decide +kernel
/-- a row that is told by spans. -/
def rowS (lead b : Int) : Int :=
  if lead = 163 then (if b = 220 then 65510 else if b = 254 then 65507 else 65281 + b - 161)
  else if lead = 164 then 12593 + b - 161
  else if lead = 165 then spanW b 161 170 8560 + spanW b 176 185 8544 + spanW b 193 209 913 + spanW b 210 216 931 + spanW b 225 241 945 + spanW b 242 248 963
  else if lead = 170 then spanW b 161 243 12353
  else if lead = 171 then spanW b 161 246 12449
  else if lead = 172 then spanW b 161 166 1040 + spanW b 167 167 1025 + spanW b 168 193 1046 + spanW b 209 214 1072 + spanW b 215 215 1105 + spanW b 216 241 1078
  else 0
noncomputable def rowW (lead b : Int) : Int :=
  if lead = 161 then (pts (bl a1T)).getD (b - 161).toNat 0
  else if lead = 162 then (if b - 161 < 71 then (pts (bl a2T)).getD (b - 161).toNat 0 else 0)
  else if lead = 166 then (if b - 161 < 68 then (pts (bl a6T)).getD (b - 161).toNat 0 else 0)
  else rowS lead b
theorem spanW_bd (b f l p : Int) (hb0 : 0 ≤ b) (hb1 : b ≤ 1000) (hf0 : 0 ≤ f) (hp0 : 0 ≤ p) (hp1 : p ≤ 100000) : 0 ≤ spanW b f l p ∧ spanW b f l p ≤ 101000 := by unfold spanW; omega
theorem nthD (T : ByteArray) (b : Int) (n : Nat) (hb0 : 161 ≤ b) (hb1 : b - 161 < n) (h : T.size ≤ 1000 ∧ (scanL (bl T)).2 = none ∧ (pts (bl T)).length = n) (S : ByteArray) (hS : S = T) (w : World) :
    Calls Tryz.prog 134 #[.string S, .int .i64 (b - 161)] w fun e w' => e = .returned (.int .i32 ((pts (bl T)).getD (b - 161).toNat 0)) ∧ Below w.heap.size w w' := by
  obtain ⟨p, hp⟩ := at_some (pts (bl T)) (b - 161).toNat (by omega)
  have e : (pts (bl T)).getD (b - 161).toNat 0 = p := by rw [List.getD, hp]; rfl
  rw [e]
  exact nth_lit S T hS (b - 161).toNat (b - 161) p w (by omega) h.1 h.2.1 hp
set_option maxRecDepth 100000 in
set_option maxHeartbeats 4000000 in
theorem row7_any (lead b : Int) (w : World) (h0 : 161 ≤ lead) (h1 : lead ≤ 254) (h2 : 161 ≤ b) (h3 : b ≤ 254) :
    Calls Tryz.prog 142 #[.int .i64 lead, .int .i64 b] w fun e w' => e = .returned (.int .i32 (rowW lead b)) ∧ Below w.heap.size w w' := by
  by_cases c1 : lead = 161
  · subst c1
    have he : rowW 161 b = (pts (bl a1T)).getD (b - 161).toNat 0 := by unfold rowW; rw [if_pos rfl]
    rw [he]
    have k1 := nthD a1T b 94 h2 (by omega) a1T_len
    have K1 := Lib.hid k1
    have HE := Lib.hid he
    clear k1 he
    go_enter Tryz.func142, Tryz.ntmps142
    go_wp2_with (go_at_call 134; refine (K1.out _ (by kernel_rfl) _).mono ?_; rintro e w1 ⟨rfl, hb1⟩)
    go_ret
    exact ⟨rfl, hb1⟩
  by_cases c2 : lead = 162
  · subst c2
    by_cases hl : b - 161 < 71
    · have he : rowW 162 b = (pts (bl a2T)).getD (b - 161).toNat 0 := by unfold rowW; rw [if_neg (by omega), if_pos rfl, if_pos hl]
      rw [he]
      have k1 := nthD a2T b 71 h2 (by omega) a2T_len
      have K1 := Lib.hid k1
      have HE := Lib.hid he
      clear k1 he
      go_enter Tryz.func142, Tryz.ntmps142
      go_wp2_with (go_at_call 134; refine (K1.out _ (by kernel_rfl) _).mono ?_; rintro e w1 ⟨rfl, hb1⟩)
      go_ret
      exact ⟨rfl, hb1⟩
    · have he : rowW 162 b = 0 := by unfold rowW; rw [if_neg (by omega), if_pos rfl, if_neg hl]
      rw [he]
      have HE := Lib.hid he
      clear he
      go_enter Tryz.func142, Tryz.ntmps142
      go_wp2
      go_ret
      exact ⟨rfl, Below.refl _ _⟩
  by_cases c6 : lead = 166
  · subst c6
    by_cases hl : b - 161 < 68
    · have he : rowW 166 b = (pts (bl a6T)).getD (b - 161).toNat 0 := by unfold rowW; rw [if_neg (by omega), if_neg (by omega), if_pos rfl, if_pos hl]
      rw [he]
      have k1 := nthD a6T b 68 h2 (by omega) a6T_len
      have K1 := Lib.hid k1
      have HE := Lib.hid he
      clear k1 he
      go_enter Tryz.func142, Tryz.ntmps142
      go_wp2_with (go_at_call 134; refine (K1.out _ (by kernel_rfl) _).mono ?_; rintro e w1 ⟨rfl, hb1⟩)
      go_ret
      exact ⟨rfl, hb1⟩
    · have he : rowW 166 b = 0 := by unfold rowW; rw [if_neg (by omega), if_neg (by omega), if_pos rfl, if_neg hl]
      rw [he]
      have HE := Lib.hid he
      clear he
      go_enter Tryz.func142, Tryz.ntmps142
      go_wp2
      go_ret
      exact ⟨rfl, Below.refl _ _⟩
  have he : rowW lead b = rowS lead b := by unfold rowW; rw [if_neg c1, if_neg c2, if_neg c6]
  rw [he]
  clear he
  have C1 := Lib.hid (fun f l p w a b' c d e g => span7_any b f l p w (by omega) (by omega) a b' c d e g)
  have bd := fun f l p a c d => spanW_bd b f l p (by omega) (by omega) a c d
  by_cases c3 : lead = 163
  · subst c3
    have he : rowS 163 b = if b = 220 then 65510 else if b = 254 then 65507 else 65281 + b - 161 := by unfold rowS; rw [if_pos rfl]
    rw [he]
    clear C1 bd he
    by_cases b1 : b = 220
    · subst b1
      go_enter Tryz.func142, Tryz.ntmps142
      go_wp2
      go_ret
      exact ⟨rfl, Below.refl _ _⟩
    by_cases b2 : b = 254
    · subst b2
      go_enter Tryz.func142, Tryz.ntmps142
      go_wp2
      go_ret
      exact ⟨rfl, Below.refl _ _⟩
    · rw [if_neg b1, if_neg b2]
      go_enter Tryz.func142, Tryz.ntmps142
      go_wp2
      go_ret
      exact ⟨rfl, Below.refl _ _⟩
  by_cases c4 : lead = 164
  · subst c4
    have he : rowS 164 b = 12593 + b - 161 := by unfold rowS; rw [if_neg (by omega), if_pos rfl]
    rw [he]
    clear C1 bd he
    go_enter Tryz.func142, Tryz.ntmps142
    go_wp2
    go_ret
    exact ⟨rfl, Below.refl _ _⟩
  by_cases c5 : lead = 165
  · subst c5
    have he : rowS 165 b = spanW b 161 170 8560 + spanW b 176 185 8544 + spanW b 193 209 913 + spanW b 210 216 931 + spanW b 225 241 945 + spanW b 242 248 963 := by unfold rowS; rw [if_neg (by omega), if_neg (by omega), if_pos rfl]
    rw [he]
    have k1 := fun w => C1.out 161 170 8560 w (by omega) (by omega) (by omega) (by omega) (by omega) (by omega)
    have k2 := fun w => C1.out 176 185 8544 w (by omega) (by omega) (by omega) (by omega) (by omega) (by omega)
    have k3 := fun w => C1.out 193 209 913 w (by omega) (by omega) (by omega) (by omega) (by omega) (by omega)
    have k4 := fun w => C1.out 210 216 931 w (by omega) (by omega) (by omega) (by omega) (by omega) (by omega)
    have k5 := fun w => C1.out 225 241 945 w (by omega) (by omega) (by omega) (by omega) (by omega) (by omega)
    have k6 := fun w => C1.out 242 248 963 w (by omega) (by omega) (by omega) (by omega) (by omega) (by omega)
    have b1 := bd 161 170 8560 (by omega) (by omega) (by omega)
    have b2 := bd 176 185 8544 (by omega) (by omega) (by omega)
    have b3 := bd 193 209 913 (by omega) (by omega) (by omega)
    have b4 := bd 210 216 931 (by omega) (by omega) (by omega)
    have b5 := bd 225 241 945 (by omega) (by omega) (by omega)
    have b6 := bd 242 248 963 (by omega) (by omega) (by omega)
    generalize spanW b 161 170 8560 = q1 at *
    generalize spanW b 176 185 8544 = q2 at *
    generalize spanW b 193 209 913 = q3 at *
    generalize spanW b 210 216 931 = q4 at *
    generalize spanW b 225 241 945 = q5 at *
    generalize spanW b 242 248 963 = q6 at *
    have K1 := Lib.hid k1
    have K2 := Lib.hid k2
    have K3 := Lib.hid k3
    have K4 := Lib.hid k4
    have K5 := Lib.hid k5
    have K6 := Lib.hid k6
    clear k1 k2 k3 k4 k5 k6
    clear C1 bd he
    go_enter Tryz.func142, Tryz.ntmps142
    go_wp2_with (first
      | (go_at_call 187; with_reducible refine (K1.out _).mono ?_; rintro e w1 ⟨rfl, rfl⟩)
      | (go_at_call 187; with_reducible refine (K2.out _).mono ?_; rintro e w1 ⟨rfl, rfl⟩)
      | (go_at_call 187; with_reducible refine (K3.out _).mono ?_; rintro e w1 ⟨rfl, rfl⟩)
      | (go_at_call 187; with_reducible refine (K4.out _).mono ?_; rintro e w1 ⟨rfl, rfl⟩)
      | (go_at_call 187; with_reducible refine (K5.out _).mono ?_; rintro e w1 ⟨rfl, rfl⟩)
      | (go_at_call 187; with_reducible refine (K6.out _).mono ?_; rintro e w1 ⟨rfl, rfl⟩))
    go_ret
    exact ⟨ret_i (by first | rfl | omega), Below.refl _ _⟩
  by_cases c7 : lead = 170
  · subst c7
    have he : rowS 170 b = spanW b 161 243 12353 := by unfold rowS; rw [if_neg (by omega), if_neg (by omega), if_neg (by omega), if_pos rfl]
    rw [he]
    have k1 := fun w => C1.out 161 243 12353 w (by omega) (by omega) (by omega) (by omega) (by omega) (by omega)
    have K1 := Lib.hid k1
    clear k1
    clear C1 bd he
    go_enter Tryz.func142, Tryz.ntmps142
    go_wp2_with (go_at_call 187; with_reducible refine (K1.out _).mono ?_; rintro e w1 ⟨rfl, rfl⟩)
    go_ret
    exact ⟨rfl, Below.refl _ _⟩
  by_cases c8 : lead = 171
  · subst c8
    have he : rowS 171 b = spanW b 161 246 12449 := by unfold rowS; rw [if_neg (by omega), if_neg (by omega), if_neg (by omega), if_neg (by omega), if_pos rfl]
    rw [he]
    have k1 := fun w => C1.out 161 246 12449 w (by omega) (by omega) (by omega) (by omega) (by omega) (by omega)
    have K1 := Lib.hid k1
    clear k1
    clear C1 bd he
    go_enter Tryz.func142, Tryz.ntmps142
    go_wp2_with (go_at_call 187; with_reducible refine (K1.out _).mono ?_; rintro e w1 ⟨rfl, rfl⟩)
    go_ret
    exact ⟨rfl, Below.refl _ _⟩
  by_cases c9 : lead = 172
  · subst c9
    have he : rowS 172 b = spanW b 161 166 1040 + spanW b 167 167 1025 + spanW b 168 193 1046 + spanW b 209 214 1072 + spanW b 215 215 1105 + spanW b 216 241 1078 := by
      unfold rowS; rw [if_neg (by omega), if_neg (by omega), if_neg (by omega), if_neg (by omega), if_neg (by omega), if_pos rfl]
    rw [he]
    have k1 := fun w => C1.out 161 166 1040 w (by omega) (by omega) (by omega) (by omega) (by omega) (by omega)
    have k2 := fun w => C1.out 167 167 1025 w (by omega) (by omega) (by omega) (by omega) (by omega) (by omega)
    have k3 := fun w => C1.out 168 193 1046 w (by omega) (by omega) (by omega) (by omega) (by omega) (by omega)
    have k4 := fun w => C1.out 209 214 1072 w (by omega) (by omega) (by omega) (by omega) (by omega) (by omega)
    have k5 := fun w => C1.out 215 215 1105 w (by omega) (by omega) (by omega) (by omega) (by omega) (by omega)
    have k6 := fun w => C1.out 216 241 1078 w (by omega) (by omega) (by omega) (by omega) (by omega) (by omega)
    have b1 := bd 161 166 1040 (by omega) (by omega) (by omega)
    have b2 := bd 167 167 1025 (by omega) (by omega) (by omega)
    have b3 := bd 168 193 1046 (by omega) (by omega) (by omega)
    have b4 := bd 209 214 1072 (by omega) (by omega) (by omega)
    have b5 := bd 215 215 1105 (by omega) (by omega) (by omega)
    have b6 := bd 216 241 1078 (by omega) (by omega) (by omega)
    generalize spanW b 161 166 1040 = q1 at *
    generalize spanW b 167 167 1025 = q2 at *
    generalize spanW b 168 193 1046 = q3 at *
    generalize spanW b 209 214 1072 = q4 at *
    generalize spanW b 215 215 1105 = q5 at *
    generalize spanW b 216 241 1078 = q6 at *
    have K1 := Lib.hid k1
    have K2 := Lib.hid k2
    have K3 := Lib.hid k3
    have K4 := Lib.hid k4
    have K5 := Lib.hid k5
    have K6 := Lib.hid k6
    clear k1 k2 k3 k4 k5 k6
    clear C1 bd he
    go_enter Tryz.func142, Tryz.ntmps142
    go_wp2_with (first
      | (go_at_call 187; with_reducible refine (K1.out _).mono ?_; rintro e w1 ⟨rfl, rfl⟩)
      | (go_at_call 187; with_reducible refine (K2.out _).mono ?_; rintro e w1 ⟨rfl, rfl⟩)
      | (go_at_call 187; with_reducible refine (K3.out _).mono ?_; rintro e w1 ⟨rfl, rfl⟩)
      | (go_at_call 187; with_reducible refine (K4.out _).mono ?_; rintro e w1 ⟨rfl, rfl⟩)
      | (go_at_call 187; with_reducible refine (K5.out _).mono ?_; rintro e w1 ⟨rfl, rfl⟩)
      | (go_at_call 187; with_reducible refine (K6.out _).mono ?_; rintro e w1 ⟨rfl, rfl⟩))
    go_ret
    exact ⟨ret_i (by first | rfl | omega), Below.refl _ _⟩
  · have he : rowS lead b = 0 := by
      unfold rowS
      rw [if_neg c3, if_neg c4, if_neg c5, if_neg c7, if_neg c8, if_neg c9]
    rw [he]
    clear C1 bd he
    go_enter Tryz.func142, Tryz.ntmps142
    go_wp2
    go_ret
    exact ⟨rfl, Below.refl _ _⟩
noncomputable def signW (lead b : Int) : Int :=
  if numberM b < 0 ∨ lead < 129 ∨ 254 < lead then 0
  else if lead < 161 then kthM ((lead - 129) * 178 + numberM b) false
  else if b < 161 then kthM (5696 + (lead - 161) * 84 + numberM b) false
  else if 176 ≤ lead ∧ lead ≤ 200 then kthM ((lead - 176) * 94 + b - 161) true
  else rowW lead b
set_option maxRecDepth 100000 in
set_option maxHeartbeats 4000000 in
theorem sign7_any (lead b : Int) (w : World) (h0 : 0 ≤ lead) (h1 : lead ≤ 255) (h2 : 0 ≤ b) (h3 : b ≤ 255) :
    Calls Tryz.prog 90 #[.int .i64 lead, .int .i64 b] w fun e w' => e = .returned (.int .i32 (signW lead b)) ∧ Below w.heap.size w w' := by
  have k0 := fun w => second7_any b w (by omega) (by omega)
  have hm : signW lead b = if numberM b < 0 ∨ lead < 129 ∨ 254 < lead then 0
    else if lead < 161 then kthM ((lead - 129) * 178 + numberM b) false
    else if b < 161 then kthM (5696 + (lead - 161) * 84 + numberM b) false
    else if 176 ≤ lead ∧ lead ≤ 200 then kthM ((lead - 176) * 94 + b - 161) true else rowW lead b := rfl
  have hb4 : ¬ numberM b < 0 → b ≤ 254 := by unfold numberM; omega
  obtain ⟨n0, n1⟩ := numberM_bd b
  generalize numberM b = t at *
  have K0 := Lib.hid k0
  clear k0
  by_cases c1 : t < 0 ∨ lead < 129 ∨ 254 < lead
  · rw [if_pos c1] at hm
    rw [hm]
    clear hm
    rcases c1 with c | c | c
    · go_enter Tryz.func90, Tryz.ntmps90
      go_wp2_with (go_at_call 140; refine (K0.out _).mono ?_; rintro e w1 ⟨rfl, rfl⟩)
      go_ret
      exact ⟨rfl, Below.refl _ _⟩
    · by_cases ct : t < 0
      all_goals
        go_enter Tryz.func90, Tryz.ntmps90
        go_wp2_with (go_at_call 140; refine (K0.out _).mono ?_; rintro e w1 ⟨rfl, rfl⟩)
        go_ret
        exact ⟨rfl, Below.refl _ _⟩
    · by_cases ct : t < 0
      all_goals
        go_enter Tryz.func90, Tryz.ntmps90
        go_wp2_with (go_at_call 140; refine (K0.out _).mono ?_; rintro e w1 ⟨rfl, rfl⟩)
        go_ret
        exact ⟨rfl, Below.refl _ _⟩
  rw [if_neg c1] at hm
  have t0 : 0 ≤ t := by omega
  have l0 : 129 ≤ lead := by omega
  have l1 : lead ≤ 254 := by omega
  have hb := hb4 (by omega)
  clear c1 hb4 n0
  by_cases c2 : lead < 161
  · rw [if_pos c2] at hm
    rw [hm]
    have k1 := fun w => kth_any ((lead - 129) * 178 + t) false w (by omega) (by omega)
    generalize kthM ((lead - 129) * 178 + t) false = p at *
    have K1 := Lib.hid k1
    clear k1
    clear hm
    go_enter Tryz.func90, Tryz.ntmps90
    go_wp2_with (first
      | (go_at_call 140; refine (K0.out _).mono ?_; rintro e w1 ⟨rfl, rfl⟩)
      | (go_at_call 141; refine (K1.out _).mono ?_; rintro e w1 ⟨rfl, rfl⟩))
    go_ret
    exact ⟨rfl, Below.refl _ _⟩
  rw [if_neg c2] at hm
  by_cases c3 : b < 161
  · rw [if_pos c3] at hm
    rw [hm]
    have k1 := fun w => kth_any (5696 + (lead - 161) * 84 + t) false w (by omega) (by omega)
    generalize kthM (5696 + (lead - 161) * 84 + t) false = p at *
    have K1 := Lib.hid k1
    clear k1
    clear hm
    go_enter Tryz.func90, Tryz.ntmps90
    go_wp2_with (first
      | (go_at_call 140; refine (K0.out _).mono ?_; rintro e w1 ⟨rfl, rfl⟩)
      | (go_at_call 141; refine (K1.out _).mono ?_; rintro e w1 ⟨rfl, rfl⟩))
    go_ret
    exact ⟨rfl, Below.refl _ _⟩
  rw [if_neg c3] at hm
  by_cases c4 : 176 ≤ lead ∧ lead ≤ 200
  · rw [if_pos c4] at hm
    rw [hm]
    obtain ⟨c4, c5⟩ := c4
    have k1 := fun w => kth_any ((lead - 176) * 94 + b - 161) true w (by omega) (by omega)
    generalize kthM ((lead - 176) * 94 + b - 161) true = p at *
    have K1 := Lib.hid k1
    clear k1
    clear hm
    go_enter Tryz.func90, Tryz.ntmps90
    go_wp2_with (first
      | (go_at_call 140; refine (K0.out _).mono ?_; rintro e w1 ⟨rfl, rfl⟩)
      | (go_at_call 141; refine (K1.out _).mono ?_; rintro e w1 ⟨rfl, rfl⟩))
    go_ret
    exact ⟨rfl, Below.refl _ _⟩
  rw [if_neg c4] at hm
  rw [hm]
  have k1 := fun w => row7_any lead b w (by omega) (by omega) (by omega) (by omega)
  generalize rowW lead b = p at *
  have K1 := Lib.hid k1
  clear k1
  clear hm
  by_cases c5 : lead < 176
  · go_enter Tryz.func90, Tryz.ntmps90
    go_wp2_with (first
      | (go_at_call 140; refine (K0.out _).mono ?_; rintro e w1 ⟨rfl, rfl⟩)
      | (go_at_call 142; refine (K1.out _).mono ?_; rintro e w1 ⟨rfl, hb1⟩))
    go_ret
    exact ⟨rfl, hb1⟩
  · have c6 : 200 < lead := by omega
    go_enter Tryz.func90, Tryz.ntmps90
    go_wp2_with (first
      | (go_at_call 140; refine (K0.out _).mono ?_; rintro e w1 ⟨rfl, rfl⟩)
      | (go_at_call 142; refine (K1.out _).mono ?_; rintro e w1 ⟨rfl, hb1⟩))
    go_ret
    exact ⟨rfl, hb1⟩
end Go.Proofs.YtbijjomknbnmfaaGreatDoor
