/- JohabAll holds: all pairs, by rising codes, are the document's, 11,223 of them, and no two have one sign (by their sum). No condition. -/
import Derived.Test.YthboonolnnjdeaaFrame
import Derived.Test.YthboonolnnjdeaaJPairs
namespace Go.Proofs.Ythboonolnnjdeaa.johabAll
open Go.ChangeShapes Go.WideShapes Go.ChangeAt Go.RowKit
set_option linter.unusedVariables false

theorem pcells_at (l : List Int) (i : Nat) (c : Int) (h : l[i]? = some c) : (pcells l)[i * 2]? = some (.int .i64 c) ∧ (pcells l)[i * 2 + 1]? = some (.int .i32 (signJ c)) := by
  induction l generalizing i with
  | nil => simp at h
  | cons a l ih =>
    cases i with
    | zero => simp at h; subst h; exact ⟨rfl, rfl⟩
    | succ i =>
      have := ih i (by simpa using h)
      have e : pcells (a :: l) = .int .i64 a :: .int .i32 (signJ a) :: pcells l := rfl
      rw [e, show (i + 1) * 2 = i * 2 + 1 + 1 from by omega]
      simpa using this

/-- the sum of the numbers from a on, below q. -/
def sR (a q : Int) : Int := sumRun a (q - a).toNat
theorem sR_start (a : Int) : sR a a = 0 := by unfold sR; rw [show (a - a).toNat = 0 from by omega]; rfl
theorem sR_step (a q : Int) (h : a ≤ q) : sR a (q + 1) = sR a q + q := by
  unfold sR; rw [show (q + 1 - a).toNat = (q - a).toNat + 1 from by omega, sumRun_succ]; omega
theorem sR_bd (a q : Int) (h : a ≤ q) (h0 : 0 ≤ a) (h1 : q ≤ 65536) : 0 ≤ sR a q ∧ sR a q ≤ 4294967296 := by
  unfold sR; have := sumRun_bd a (q - a).toNat h0 (by omega); omega

set_option maxRecDepth 100000 in
set_option maxHeartbeats 4000000 in
theorem walk (w : World) :
    Calls Try.prog 6 #[] w fun e w' => e = .returned (.bool true) ∧ Below w.heap.size w w' := by
  have KA := Lib.hid awake06in_any
  go_enter Try.func6, Try.ntmps6
  go_wp2_with fail
  refine (pairs_any w).mono ?_
  rintro e w1 ⟨v, rfl, hown, hb1⟩
  obtain ⟨g, cap, cur, rfl, hg, hh⟩ : ∃ g cap cur, v = .slice (some ⟨g, 0, none⟩) 11223 cap ∧ w.heap.size ≤ g ∧ w1.heap[g]? = some (.cells cur 37 (0, 0)) := by
    rcases hown.2 with ⟨_, h⟩ | ⟨g, cap, cur, rfl, hg, hh, _⟩
    · omega
    · exact ⟨g, cap, cur, rfl, hg, hh⟩
  have hgl : g < w1.heap.size := by
    rcases Nat.lt_or_ge g w1.heap.size with h | h
    · exact h
    · rw [Array.getElem?_eq_none h] at hh; cases hh
  have hcell : ∀ c : Int, 32768 ≤ c → c < 65536 → signJ c ≠ 0 → w1.cell? ⟨g, (plZ c).length * 2, none⟩ = some (.int .i64 c) ∧ w1.cell? ⟨g, (plZ c).length * 2 + 1, none⟩ = some (.int .i32 (signJ c)) ∧ (plZ c).length < 11223 := by
    intro c h0 h1 hs
    have ha := plZ_at c h0 h1 hs
    have hl : (plZ c).length < 11223 := by
      rw [← plZ_count]; exact (List.getElem?_eq_some_iff.1 ha).1
    obtain ⟨e1, e2⟩ := pcells_at _ _ _ ha
    refine ⟨?_, ?_, hl⟩
    · rw [hown.cellAt _ (by omega)]; exact e1
    · rw [hown.cellAt _ (by omega)]; exact e2
  clear hown hh
  have HC := Lib.hid hcell
  clear hcell
  go_wp2
  go_loopw [2, 3, 4] (fun k s n wr => ∃ c : Int, 32768 ≤ c ∧ c ≤ 65536 ∧ n = .int .i64 c ∧ k = .int .i64 ((plZ c).length : Int) ∧ s = .int .i64 (sumZ c) ∧ Below w1.heap.size w1 wr) (fun _ _ n _ => (65536 - intOf n).toNat)
  case atStart => exact ⟨32768, by omega, by omega, rfl, rfl, rfl, Below.refl _ _⟩
  case round =>
    obtain ⟨c, hc0, hc1, rfl, rfl, rfl, hbel⟩ := hrel
    have hle := plZ_le c hc0
    have hsb := sumZ_bd c hc0 hc1
    obtain ⟨hs0, hs1⟩ := hsb
    by_cases hlt : c < 65536
    · have k1 := fun w => refSign_any c w (by omega) (by omega)
      have hsg := signJ_bd c (by omega) hlt
      by_cases hz : signJ c = 0
      · have e1 := plZ_skip c hc0 hz
        have e2 := sumZ_skip c hc0 hz
        rw [hz] at k1
        have K1 := Lib.hid k1
        have E1 := Lib.hid e1
        have E2 := Lib.hid e2
        clear k1 e1 e2 hz hsg
        go_wp2_with (go_at_call 8; refine (K1.out _).mono ?_; rintro e w2 ⟨rfl, hb2⟩)
        go_roundw
        case rel => exact ⟨c + 1, by omega, by omega, rfl, by rw [E1.out], by rw [E2.out], bt hbel hb2⟩
        case measure => simp [intOf]; omega
      · have e1 := plZ_take c hc0 hz
        have e2 := sumZ_take c hc0 hz
        obtain ⟨x1, x2, x3⟩ := HC.out c hc0 hlt hz
        have x1' := (hbel.cell (p := ⟨g, (plZ c).length * 2, none⟩) hgl).trans x1
        have x2' := (hbel.cell (p := ⟨g, (plZ c).length * 2 + 1, none⟩) hgl).trans x2
        clear x1 x2
        have e3 : (signJ c == 0) = false := by simpa using hz
        generalize signJ c = p at *
        have E1 := Lib.hid e1
        have E2 := Lib.hid e2
        clear e1 e2 hz
        generalize hk : (plZ c).length = k at *
        generalize hsm : sumZ c = s at *
        have HK := Lib.hid hk
        have HS := Lib.hid hsm
        clear hk hsm
        obtain ⟨g0, g1⟩ := hsg
        have K1 := Lib.hid k1
        clear k1
        go_wp2_with (go_at_call 8; refine (K1.out _).mono ?_; rintro e w2 ⟨rfl, hb2⟩; have y1 := (hb2.cell (p := ⟨g, k * 2, none⟩) (Nat.lt_of_lt_of_le hgl hbel.size)).trans x1'; have y2 := (hb2.cell (p := ⟨g, k * 2 + 1, none⟩) (Nat.lt_of_lt_of_le hgl hbel.size)).trans x2')
        go_roundw
        case rel => exact ⟨c + 1, by omega, by omega, rfl, by rw [E1.out, List.length_append, HK.out]; rfl, by rw [E2.out], bt hbel hb2⟩
        case measure => simp [intOf]; omega
    · obtain rfl : c = 65536 := by omega
      clear HC hle hs0 hs1 hc0 hc1
      have e1 := plZ_count
      have e2 := sumZ_all
      rw [e1, e2]
      clear e1 e2 hlt
      obtain ⟨bx0, bx1⟩ := sumRun_bd 12593 51 (by omega) (by omega)
      obtain ⟨by0, by1⟩ := sumRun_bd 44032 11172 (by omega) (by omega)
      generalize hx : sumRun 12593 51 = x at *
      generalize hy : sumRun 44032 11172 = y at *
      have HX := Lib.hid hx
      have HY := Lib.hid hy
      clear hx hy
      have hbw := bt hb1 hbel
      clear hbel hb1 hgl hg
      go_wp2
      go_loop [6, 7] (fun a i => ∃ q : Int, 12593 ≤ q ∧ q ≤ 12644 ∧ i = .int .i64 q ∧ a = .int .i64 (sR 12593 q)) (fun _ i => (12644 - intOf i).toNat)
      case atStart => exact ⟨12593, by omega, by omega, rfl, by rw [sR_start]⟩
      case round =>
        obtain ⟨q, hq0, hq1, rfl, rfl⟩ := hrel
        by_cases hql : q < 12644
        · have e1 := sR_step 12593 q hq0
          obtain ⟨z0, z1⟩ := sR_bd 12593 q hq0 (by omega) (by omega)
          have E1 := Lib.hid e1
          clear e1
          generalize sR 12593 q = z at *
          go_wp2
          go_round
          case rel => exact ⟨q + 1, by omega, by omega, rfl, by rw [E1.out]⟩
          case measure => simp [intOf]; omega
        · obtain rfl : q = 12644 := by omega
          have e1 : sR 12593 12644 = x := HX.out
          rw [e1]
          clear e1 hql hq0 hq1
          go_wp2
          go_loop [6, 8] (fun a i => ∃ q : Int, 44032 ≤ q ∧ q ≤ 55204 ∧ i = .int .i64 q ∧ a = .int .i64 (x + sR 44032 q)) (fun _ i => (55204 - intOf i).toNat)
          case atStart => exact ⟨44032, by omega, by omega, rfl, by rw [sR_start]; simp⟩
          case round =>
            obtain ⟨q, hq0, hq1, rfl, rfl⟩ := hrel
            by_cases hql : q < 55204
            · have e1 := sR_step 44032 q hq0
              obtain ⟨z0, z1⟩ := sR_bd 44032 q hq0 (by omega) (by omega)
              have E1 := Lib.hid e1
              clear e1
              generalize sR 44032 q = z at *
              go_wp2
              go_round
              case rel => exact ⟨q + 1, by omega, by omega, rfl, by rw [E1.out, Int.add_assoc]⟩
              case measure => simp [intOf]; omega
            · obtain rfl : q = 55204 := by omega
              have e1 : sR 44032 55204 = y := HY.out
              rw [e1]
              clear e1 hql hq0 hq1
              go_wp2_with (go_at_call 9; refine (KA.out _).mono ?_; rintro e w3 ⟨rfl, hb3⟩)
              go_ret
              exact ⟨rfl, bt hbw hb3⟩

set_option maxRecDepth 100000 in
theorem lifted (os : Os) (started : os.Started) (H : Type) (enc : TypeId × Value → H) :
    ReturnsInHanded {} Try.checked os 6 .any (Rows.johabAllSpec.pre6 enc Try.prog Try.f6 Rows.johabAllRow.domain false) (Rows.johabAllSpec.post enc Try.prog Try.f6 false true false false) := by
  refine returnsInHanded_of_change (C := Try.checked) own started (by kernel_rfl) Try.func6
    (ChangeSpec.witness6 (enc := enc) (C := Try.checked) false ⟨#[], #[], []⟩ 8 (by kernel_rfl) (by kernel_rfl) (by kernel_rfl) (by kernel_rfl)) ?_
  intro W base args ds gs before hval0 hW hcnd _
  have hval : ∀ (j : Nat) t v, Try.f6.params[j]? = some t → args[j]? = some v → Value.okWide Try.prog W .any base t v := hval0
  have hW' := hW
  obtain ⟨p, q, hA0, hV, rfl, hfz, hnd⟩ := hW
  have hA : DataW.TrodAll enc Try.prog W 0 (fun _ => true) true Try.f6.params.toList args.toList ds p := hA0
  rw [Try.params6] at hA hval
  obtain ⟨hargs, rfl, rfl⟩ := trodAll_nil hA
  obtain rfl : args = #[] := by cases args; simp_all
  obtain ⟨rfl, rfl⟩ := trodVars_none hV
  clear hA0 hval0
  clear hargs
  refine (walk  W).mono fun e W' ⟨he, hg⟩ => ?_
  subst he
  exact ⟨_, rfl, post_below (pa := []) (pv := []) hW' (trodAll_cons_mk (shut_bool Try.underlying4 _) trodAll_mk0) trodAll_mk0 rfl hg⟩

theorem over : Rows.johabAllRow.holds Try.pinned (OpenSpec.ofChange Rows.johabAllSpec) :=
  OpenClaim.holds_of_wide 6 Try.f6 rfl rfl rfl rfl rfl rfl rfl ⟨rfl, rfl, rfl, rfl, rfl⟩ rfl rfl rfl rfl rfl (by kernel_rfl) Try.func6 (by kernel_rfl)
    (of_decide_eq_true (by kernel_rfl)) (by unfold Func.isWrapper; first | (rw [if_pos (by decide +kernel)]; kernel_rfl) | (rw [if_neg (by decide +kernel)]; exact ⟨rfl, rfl⟩))
    (fun os started H enc _ => lifted os started H enc)

/-- THE STATEMENT -/
theorem proved : Rows.JohabAllSaid :=
  over
#print axioms proved
end Go.Proofs.Ythboonolnnjdeaa.johabAll
