/- The reference's charset of any bytes (layer 10). -/
import Derived.Test.YtbijjomknbnmfaaGreatDoorVa
namespace Go.Proofs.YtbijjomknbnmfaaGreatDoor
open Go.RowKit
set_option linter.unusedVariables false
set_option linter.unusedSimpArgs false

set_option maxRecDepth 100000 in
set_option maxHeartbeats 4000000 in
theorem resolve10_any (b d : ByteArray) (fb : Int) (g : Bool) (w : World) (hb : b.size ≤ 1048576) (hd : d.size ≤ 1048576) :
    Calls Tryz.prog 39 #[.string b, .string d, .int .i64 fb, .bool g] w fun e w' => e = .returned (.int .i64 (resM (bl b) (bl d) fb g)) ∧ Below w.heap.size w w' := by
  have hm : resM (bl b) (bl d) fb g = if (scanL (bl b)).2.isNone = true then 7 else if 0 ≤ refNamed (bl d) then refNamed (bl d)
    else if g = true then (if 0 ≤ guess10M (fun c => scoreR c (bl b)) orderL then guess10M (fun c => scoreR c (bl b)) orderL else fb) else fb := rfl
  obtain ⟨R, hR⟩ : ∃ R, R = resM (bl b) (bl d) fb g := ⟨_, rfl⟩
  rw [← hR] at hm ⊢
  have k1 := fun w => refPoints_any b w (by omega)
  unfold RPts RPtsS at k1
  have k2 := fun w => refNamed_any d w (by omega)
  have k3 := fun w => order10_any w
  have k4 : ∀ v w, Row w v 7 (ccells orderL) → Calls Tryz.prog 30 #[.string b, v] w fun e w' => e = .returned (.int .i64 (guess10M (fun c => scoreR c (bl b)) orderL)) ∧ Below w.heap.size w w' :=
    fun v w hr => guess10_any b v orderL w hb hr (by decide)
  generalize guess10M (fun c => scoreR c (bl b)) orderL = G at *
  generalize refNamed (bl d) = N at *
  cases hs : (scanL (bl b)).2 with
  | none =>
    rw [hs] at k1 hm
    rw [Option.isNone_none, if_pos rfl] at hm
    subst hm
    simp only at k1
    have K1 := Lib.hid k1
    have K2 := Lib.hid k2
    have K3 := Lib.hid k3
    have K4 := Lib.hid k4
    clear k1 k2 k3 k4
    clear hs hR
    go_enter Tryz.func39, Tryz.ntmps39
    go_wp2_with (go_at_call 51; refine (K1.out _).mono ?_; rintro e w1 ⟨⟨v, rfl, hown⟩, hb1⟩)
    go_ret
    exact ⟨rfl, hb1⟩
  | some q =>
    rw [hs] at k1 hm
    rw [Option.isNone_some, if_neg (by decide)] at hm
    simp only at k1
    have hq0 : ¬ (q : Int) < 0 := by omega
    clear hs hR
    by_cases hN : 0 ≤ N
    · rw [if_pos hN] at hm
      subst hm
      have K1 := Lib.hid k1
      have K2 := Lib.hid k2
      have K3 := Lib.hid k3
      have K4 := Lib.hid k4
      clear k1 k2 k3 k4
      go_enter Tryz.func39, Tryz.ntmps39
      go_wp2_with (first
        | (go_at_call 51; refine (K1.out _).mono ?_; rintro e w1 ⟨rfl, hb1⟩)
        | (go_at_call 23; refine (K2.out _).mono ?_; rintro e w2 ⟨rfl, hb2⟩))
      go_ret
      exact ⟨rfl, bt hb1 hb2⟩
    · rw [if_neg hN] at hm
      cases g with
      | false =>
        rw [if_neg (by decide)] at hm
        subst hm
        have K1 := Lib.hid k1
        have K2 := Lib.hid k2
        have K3 := Lib.hid k3
        have K4 := Lib.hid k4
        clear k1 k2 k3 k4
        go_enter Tryz.func39, Tryz.ntmps39
        go_wp2_with (first
          | (go_at_call 51; refine (K1.out _).mono ?_; rintro e w1 ⟨rfl, hb1⟩)
          | (go_at_call 23; refine (K2.out _).mono ?_; rintro e w2 ⟨rfl, hb2⟩))
        go_ret
        exact ⟨rfl, bt hb1 hb2⟩
      | true =>
        rw [if_pos rfl] at hm
        have K1 := Lib.hid k1
        have K2 := Lib.hid k2
        have K3 := Lib.hid k3
        have K4 := Lib.hid k4
        clear k1 k2 k3 k4
        by_cases hG : 0 ≤ G
        · rw [if_pos hG] at hm
          subst hm
          go_enter Tryz.func39, Tryz.ntmps39
          go_wp2_with (first
            | (go_at_call 51; refine (K1.out _).mono ?_; rintro e w1 ⟨rfl, hb1⟩)
            | (go_at_call 23; refine (K2.out _).mono ?_; rintro e w2 ⟨rfl, hb2⟩)
            | (go_at_call 32; refine (K3.out _).mono ?_; rintro e w3 ⟨v, rfl, hrow, hb3⟩)
            | (go_at_call 30; refine (K4.out _ _ hrow).mono ?_; rintro e w4 ⟨rfl, hb4⟩))
          go_ret
          exact ⟨rfl, bt (bt (bt hb1 hb2) hb3) hb4⟩
        · rw [if_neg hG] at hm
          subst hm
          go_enter Tryz.func39, Tryz.ntmps39
          go_wp2_with (first
            | (go_at_call 51; refine (K1.out _).mono ?_; rintro e w1 ⟨rfl, hb1⟩)
            | (go_at_call 23; refine (K2.out _).mono ?_; rintro e w2 ⟨rfl, hb2⟩)
            | (go_at_call 32; refine (K3.out _).mono ?_; rintro e w3 ⟨v, rfl, hrow, hb3⟩)
            | (go_at_call 30; refine (K4.out _ _ hrow).mono ?_; rintro e w4 ⟨rfl, hb4⟩))
          go_ret
          exact ⟨rfl, bt (bt (bt hb1 hb2) hb3) hb4⟩
end Go.Proofs.YtbijjomknbnmfaaGreatDoor
