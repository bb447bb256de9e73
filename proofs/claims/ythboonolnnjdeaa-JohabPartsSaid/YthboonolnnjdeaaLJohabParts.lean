/- JohabParts holds: the syllable of any three parts, or that there is none, is the document's, and has two bytes. No condition. -/
import Derived.Test.YthboonolnnjdeaaFrame
import Derived.Test.YthboonolnnjdeaaJWalk7
namespace Go.Proofs.Ythboonolnnjdeaa.johabParts
open Go.ChangeShapes Go.WideShapes Go.ChangeAt Go.RowKit
set_option linter.unusedVariables false

/-- what the law asks of the three parts. -/
def there (i m f : Int) : Bool := decide (0 ≤ i ∧ i < 19 ∧ 0 ≤ m ∧ m < 21 ∧ 0 ≤ f ∧ f < 28)

set_option maxHeartbeats 2000000 in
theorem walk_none (i m f : Int) (h : ¬ (0 ≤ i ∧ i < 19 ∧ 0 ≤ m ∧ m < 21 ∧ 0 ≤ f ∧ f < 28)) (w : World) :
    Calls Try.prog 5 #[.int .i64 i, .int .i64 m, .int .i64 f] w fun e w' => e = .returned (.bool true) ∧ Below w.heap.size w w' := by
  have k1 := syllable_any i m f
  rw [show syl i m f = 0 from by unfold syl; rw [if_neg (by omega)], show sylB i m f = false from by unfold sylB; rw [decide_eq_false (by omega)]] at k1
  have K1 := Lib.hid k1
  have KA := Lib.hid awake06in_any
  clear k1
  rcases (show i < 0 ∨ (0 ≤ i ∧ 19 ≤ i) ∨ (0 ≤ i ∧ i < 19 ∧ m < 0) ∨ (0 ≤ i ∧ i < 19 ∧ 0 ≤ m ∧ 21 ≤ m) ∨ (0 ≤ i ∧ i < 19 ∧ 0 ≤ m ∧ m < 21 ∧ f < 0) ∨ (0 ≤ i ∧ i < 19 ∧ 0 ≤ m ∧ m < 21 ∧ 0 ≤ f ∧ 28 ≤ f) from by omega) with a | ⟨a, b⟩ | ⟨a, b, c⟩ | ⟨a, b, c, d⟩ | ⟨a, b, c, d, e⟩ | ⟨a, b, c, d, e, g⟩
  all_goals (try (have hd : decide (f < 28) = false := by simp; omega))
  all_goals (
    clear h
    go_enter Try.func5, Try.ntmps5
    go_wp2_with (first
      | (go_at_call 12; refine (K1.out _).mono ?_; rintro e w1 ⟨rfl, rfl⟩)
      | (go_at_call 9; refine (KA.out _).mono ?_; rintro e w3 ⟨rfl, hb3⟩))
    go_ret
    exact ⟨rfl, hb3⟩)

set_option maxHeartbeats 2000000 in
theorem walk_has (i m f : Int) (L T : UInt8) (h0 : 0 ≤ i) (h1 : i < 19) (h2 : 0 ≤ m) (h3 : m < 21) (h4 : 0 ≤ f) (h5 : f < 28)
    (hc : codeJ (44032 + (i * 21 + m) * 28 + f) = (L.toNat : Int) * 256 + (T.toNat : Int)) (hL : 132 ≤ (L.toNat : Int)) (hL' : (L.toNat : Int) ≤ 211) (w : World) :
    Calls Try.prog 5 #[.int .i64 i, .int .i64 m, .int .i64 f] w fun e w' => e = .returned (.bool true) ∧ Below w.heap.size w w' := by
  have k1 := syllable_any i m f
  rw [show syl i m f = 44032 + (i * 21 + m) * 28 + f from by unfold syl; rw [if_pos (by omega)], show sylB i m f = true from by unfold sylB; rw [decide_eq_true (by omega)]] at k1
  have k2 := fun w => bytes_has _ L T w (by unfold hasJ; omega) hc
  have x0 : ∀ h, ((⟨#[L, T]⟩ : ByteArray)[0]'h) = L := fun _ => rfl
  have K1 := Lib.hid k1
  have K2 := Lib.hid k2
  have KA := Lib.hid awake06in_any
  clear k1 k2 hc
  go_enter Try.func5, Try.ntmps5
  go_wp2_with (first
    | (go_at_call 12; refine (K1.out _).mono ?_; rintro e w1 ⟨rfl, rfl⟩)
    | (go_at_call 10; refine (K2.out _).mono ?_; rintro e w1 ⟨rfl, hb1⟩)
    | (go_at_call 9; refine (KA.out _).mono ?_; rintro e w3 ⟨rfl, hb3⟩))
  go_ret
  exact ⟨rfl, bt hb1 hb3⟩

theorem walk (a0 a1 a2 : Int) (w0 : (Lit.int .i64 a0).wf = true) (w1 : (Lit.int .i64 a1).wf = true) (w2 : (Lit.int .i64 a2).wf = true) (w : World) :
    Calls Try.prog 5 #[.int .i64 a0, .int .i64 a1, .int .i64 a2] w fun e w' => e = .returned (.bool true) ∧ Below w.heap.size w w' := by
  by_cases h : 0 ≤ a0 ∧ a0 < 19 ∧ 0 ≤ a1 ∧ a1 < 21 ∧ 0 ≤ a2 ∧ a2 < 28
  · obtain ⟨h0, h1, h2, h3, h4, h5⟩ := h
    have hp : 44032 ≤ 44032 + (a0 * 21 + a1) * 28 + a2 ∧ 44032 + (a0 * 21 + a1) * 28 + a2 < 55204 := by omega
    have ep : 44032 + (a0 * 21 + a1) * 28 + a2 - 44032 = (a0 * 21 + a1) * 28 + a2 := by omega
    have hm := medCode_bd a1 (by omega) (by omega)
    have hf := finCode_bd a2 (by omega) (by omega)
    have e : codeJ (44032 + (a0 * 21 + a1) * 28 + a2) = 32768 + (a0 + 2) * 1024 + medCode a1 * 32 + finCode a2 := by
      unfold codeJ
      rw [if_pos hp, ep, show ((a0 * 21 + a1) * 28 + a2) / 28 / 21 = a0 from by omega, show ((a0 * 21 + a1) * 28 + a2) / 28 % 21 = a1 from by omega, show ((a0 * 21 + a1) * 28 + a2) % 28 = a2 from by omega]
    refine walk_has a0 a1 a2 (UInt8.ofNat (codeJ (44032 + (a0 * 21 + a1) * 28 + a2) / 256).toNat) (UInt8.ofNat (codeJ (44032 + (a0 * 21 + a1) * 28 + a2) % 256).toNat) h0 h1 h2 h3 h4 h5 ?_ ?_ ?_ w
    all_goals (rw [e]; simp only [UInt8.toNat_ofNat']; omega)
  · exact walk_none a0 a1 a2 h w

set_option maxRecDepth 100000 in
theorem lifted (os : Os) (started : os.Started) (H : Type) (enc : TypeId × Value → H) :
    ReturnsInHanded {} Try.checked os 5 .any (Rows.johabPartsSpec.pre6 enc Try.prog Try.f5 Rows.johabPartsRow.domain false) (Rows.johabPartsSpec.post enc Try.prog Try.f5 false true false false) := by
  refine returnsInHanded_of_change (C := Try.checked) own started (by kernel_rfl) Try.func5
    (ChangeSpec.witness6 (enc := enc) (C := Try.checked) false ⟨#[], #[.int .i64 0, .int .i64 0, .int .i64 0], []⟩ 8 (by kernel_rfl) (by kernel_rfl) (by kernel_rfl) (by kernel_rfl)) ?_
  intro W base args ds gs before hval0 hW hcnd _
  have hval : ∀ (j : Nat) t v, Try.f5.params[j]? = some t → args[j]? = some v → Value.okWide Try.prog W .any base t v := hval0
  have hW' := hW
  obtain ⟨p, q, hA0, hV, rfl, hfz, hnd⟩ := hW
  have hA : DataW.TrodAll enc Try.prog W 0 (fun _ => true) true Try.f5.params.toList args.toList ds p := hA0
  rw [Try.params5] at hA hval
  obtain ⟨v0, vs0, d0, ds0, p0, q0, hargs, rfl, rfl, h0, r0⟩ := trodAll_cons hA
  obtain ⟨v1, vs1, d1, ds1, p1, q1, rfl, rfl, rfl, h1, r1⟩ := trodAll_cons r0
  obtain ⟨v2, vs2, d2, ds2, p2, q2, rfl, rfl, rfl, h2, r2⟩ := trodAll_cons r1
  obtain ⟨rfl, rfl, rfl⟩ := trodAll_nil r2
  obtain rfl : args = #[v0, v1, v2] := by cases args; simp_all
  obtain ⟨rfl, rfl⟩ := trodVars_none hV
  obtain ⟨a0, rfl, rfl, rfl, w0⟩ := open_int Try.underlying3 (hval 0 3 v0 rfl rfl) h0
  obtain ⟨a1, rfl, rfl, rfl, w1⟩ := open_int Try.underlying3 (hval 1 3 v1 rfl rfl) h1
  obtain ⟨a2, rfl, rfl, rfl, w2⟩ := open_int Try.underlying3 (hval 2 3 v2 rfl rfl) h2
  clear hA0 hval0
  simp only [List.append_nil] at hW'
  refine (walk a0 a1 a2 w0 w1 w2 W).mono fun e W' ⟨he, hg⟩ => ?_
  subst he
  exact ⟨_, rfl, post_below (pa := []) (pv := []) hW' (trodAll_cons_mk (shut_bool Try.underlying4 _) trodAll_mk0) (trodAll_cons_mk (shut_int Try.underlying3 w0) (trodAll_cons_mk (shut_int Try.underlying3 w1) (trodAll_cons_mk (shut_int Try.underlying3 w2) trodAll_mk0))) rfl hg⟩

theorem over : Rows.johabPartsRow.holds Try.pinned (OpenSpec.ofChange Rows.johabPartsSpec) :=
  OpenClaim.holds_of_wide 5 Try.f5 rfl rfl rfl rfl rfl rfl rfl ⟨rfl, rfl, rfl, rfl, rfl⟩ rfl rfl rfl rfl rfl (by kernel_rfl) Try.func5 (by kernel_rfl)
    (of_decide_eq_true (by kernel_rfl)) (by unfold Func.isWrapper; first | (rw [if_pos (by decide +kernel)]; kernel_rfl) | (rw [if_neg (by decide +kernel)]; exact ⟨rfl, rfl⟩))
    (fun os started H enc _ => lifted os started H enc)

/-- THE STATEMENT -/
theorem proved : Rows.JohabPartsSaid :=
  over
#print axioms proved
end Go.Proofs.Ythboonolnnjdeaa.johabParts
