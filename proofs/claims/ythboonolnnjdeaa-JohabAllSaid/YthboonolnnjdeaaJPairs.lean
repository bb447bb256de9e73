/- Walk: johab.Pairs. -/
import Derived.Test.YthboonolnnjdeaaJAllLaw
import Derived.Test.YthboonolnnjdeaaJWalk7
namespace Go.Proofs.Ythboonolnnjdeaa
open Go.RowKit
set_option linter.unusedVariables false

theorem infoPair : (Try.prog.info? 37).map (fun i => (i.zero, i.size, i.bytes)) = some (some (.agg #[.int .i64 0, .int .i32 0]), 2, 16) := by kernel_rfl
/-- the cells of pairs. -/
def pcells (l : List Int) : List Value := l.flatMap fun c => [.int .i64 c, .int .i32 (signJ c)]
theorem pcells_snoc (l : List Int) (k : Int) : pcells (l ++ [k]) = pcells l ++ [.int .i64 k, .int .i32 (signJ k)] := by
  simp only [pcells, List.flatMap_append, List.flatMap_cons, List.flatMap_nil, List.append_nil]

set_option maxHeartbeats 2000000 in
theorem pairs_any (w : World) :
    Calls Try.prog 13 #[] w fun e w' => ∃ v, e = .returned v ∧ w'.ownsRow w.heap.size 37 2 v 11223 (pcells (plZ 65536)) ∧ Below w.heap.size w w' := by
  obtain ⟨i0, hi, hz0, hz1, hz2⟩ := info_parts infoPair
  go_enter Try.func13, Try.ntmps13
  go_wp2
  go_loopw [1, 2] (fun v n wr => ∃ c : Int, 32768 ≤ c ∧ c ≤ 65536 ∧ n = .int .i64 c ∧ wr.ownsRow w.heap.size 37 2 v (plZ c).length (pcells (plZ c)) ∧ Below w.heap.size w wr) (fun _ n _ => (65536 - intOf n).toNat)
  case atStart => exact ⟨32768, by omega, by omega, rfl, World.ownsRow_nil _ _ _ _, Below.refl _ _⟩
  case round =>
    obtain ⟨c, hc0, hc1, rfl, hown, hbel⟩ := hrel
    have hs := hbel.size
    by_cases hlt : c < 65536
    · have k1 := sign_any (c / 256) (c % 256) wr (by omega) (by omega) (by omega) (by omega)
      rw [show c / 256 * 256 + c % 256 = c from by omega] at k1
      unfold signJB at k1
      by_cases hz : signJ c = 0
      · have e1 := plZ_skip c hc0 hz
        rw [hz] at k1
        have K1 := Lib.hid k1
        have E1 := Lib.hid e1
        clear k1 e1 hz
        go_wp2_with (go_at_call 7; refine K1.out.mono ?_; rintro e w' ⟨rfl, rfl⟩)
        go_roundw
        case rel => exact ⟨c + 1, by omega, by omega, rfl, by rw [E1.out]; exact hown, hbel⟩
        case measure => simp [intOf]; omega
      · have e1 := plZ_take c hc0 hz
        have e2 := pcells_snoc (plZ c) c
        have hle := plZ_le c hc0
        rw [show (!decide (signJ c = 0)) = true from by simpa using hz] at k1
        generalize signJ c = p at *
        have K1 := Lib.hid k1
        have E1 := Lib.hid e1
        have E2 := Lib.hid e2
        clear k1 e1 e2 hz
        generalize pcells (plZ c) = cs at *
        go_wp2_with (first
          | (go_at_call 7; refine K1.out.mono ?_; rintro e w' ⟨rfl, rfl⟩)
          | (at_builtin; refine wpList_append_own _ rfl _ _ 34 rfl w.heap.size 37 i0 (.agg #[.int .i64 0, .int .i32 0]) 2 16 Try.underlying34 hi hz0 hz1 hz2 rfl (by decide) _ _ _ rfl (hown.alloc _) ⟨wr.heap.size, 0, none⟩ 1 1 [.int .i64 c, .int .i32 p] rfl rfl ?c1 ?c2 ?c3 ?c4 ?c5 ?_))
        case c1 =>
          intro j u hj
          match j, hj with
          | 0, hj => simp at hj; subst hj; simp [Addr.add]
          | 1, hj => simp at hj; subst hj; simp [Addr.add]
        case c2 => intro u hu; simp at hu; rcases hu with rfl | rfl <;> rfl
        case c3 => unfold maxLen; omega
        case c4 => omega
        case c5 => simp; omega
        · intro v' w1 hown1 hgrow1 _
          have hb1 : Below w.heap.size w w1 := (hbel.alloc hs _).grown hgrow1 (by simp; omega) (by
            intro k hk
            have hg := hown.2
            rcases hg with ⟨rfl, _⟩ | ⟨g, cap, cur, rfl, hg, _⟩
            · simp [Value.ownBlock] at hk
            · simp [Value.ownBlock] at hk; omega)
          clear hown hbel hgrow1
          go_wp2
          go_roundw
          case rel => exact ⟨c + 1, by omega, by omega, rfl, by rw [E1.out, E2.out, List.length_append]; exact hown1, hb1⟩
          case measure => simp [intOf]; omega
    · have hcc : c = 65536 := by omega
      subst hcc
      have e1 := plZ_count
      rw [e1] at hown
      have HO := Lib.hid hown
      clear hlt e1 hown
      go_wp2
      go_ret
      exact ⟨_, rfl, HO.out, hbel⟩
end Go.Proofs.Ythboonolnnjdeaa
