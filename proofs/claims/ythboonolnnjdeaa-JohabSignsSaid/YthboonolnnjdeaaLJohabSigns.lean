/- JohabSigns holds: for any two bytes the program's sign is the document's, and leads back to them. No condition. -/
import Derived.Test.YthboonolnnjdeaaFrame
import Derived.Test.YthboonolnnjdeaaJWalk7
namespace Go.Proofs.Ythboonolnnjdeaa.johabSigns
open Go.ChangeShapes Go.WideShapes Go.ChangeAt Go.RowKit
set_option linter.unusedVariables false

set_option maxHeartbeats 1000000 in
theorem walkU (L T : UInt8) (w : World) :
    Calls Try.prog 3 #[.int .u8 L.toNat, .int .u8 T.toNat] w fun e w' => e = .returned (.bool true) ∧ Below w.heap.size w w' := by
  have hL := L.toNat_lt
  have hT := T.toNat_lt
  obtain ⟨n, hn⟩ : ∃ n, n = (L.toNat : Int) * 256 + (T.toNat : Int) := ⟨_, rfl⟩
  have n0 : 0 ≤ n := by omega
  have n1 : n < 65536 := by omega
  have k1 := fun w => sign_any L.toNat T.toNat w (by omega) (by omega) (by omega) (by omega)
  have k2 := fun w => refSign_any n w n0 n1
  rw [← hn] at k1
  have ka := awake06in_any
  by_cases h : signJ n = 0
  · unfold signJB at k1
    rw [h] at k1 k2
    have N := Lib.hid hn
    have K1 := Lib.hid k1
    have K2 := Lib.hid k2
    have KA := Lib.hid ka
    clear h hn k1 k2 ka
    go_enter Try.func3, Try.ntmps3
    go_wp2_with (first
      | (go_at_call 7; refine (K1.out _).mono ?_; rintro e w1 ⟨rfl, rfl⟩)
      | (go_at_call 8; rw [← N.out]; refine (K2.out _).mono ?_; rintro e w1 ⟨rfl, hb1⟩)
      | (go_at_call 9; refine (KA.out _).mono ?_; rintro e w2 ⟨rfl, hb2⟩))
    go_ret
    exact ⟨rfl, hb1.trans (hb2.mono hb1.size)⟩
  · have hh := signJ_has n n0 n1 h
    have hc := code_sign n n0 n1 h
    rw [hn] at hc
    rw [← hn] at hc
    have k3 := fun w => bytes_has (signJ n) L T w hh (by rw [hc, hn])
    have e1 : signJB n = true := by unfold signJB; simpa using h
    have e2 : (signJ n != 0) = true := by simpa using h
    rw [e1] at k1
    clear hh hc
    generalize signJ n = p at *
    have N := Lib.hid hn
    have K1 := Lib.hid k1
    have K2 := Lib.hid k2
    have K3 := Lib.hid k3
    have KA := Lib.hid ka
    clear hn k1 k2 k3 ka e1
    have x0 : ∀ h, ((⟨#[L, T]⟩ : ByteArray)[0]'h) = L := fun _ => rfl
    have x1 : ∀ h, ((⟨#[L, T]⟩ : ByteArray)[1]'h) = T := fun _ => rfl
    go_enter Try.func3, Try.ntmps3
    go_wp2_with (first
      | (go_at_call 7; refine (K1.out _).mono ?_; rintro e w1 ⟨rfl, rfl⟩)
      | (go_at_call 8; rw [← N.out]; refine (K2.out _).mono ?_; rintro e w1 ⟨rfl, hb1⟩)
      | (go_at_call 10; refine (K3.out _).mono ?_; rintro e w3 ⟨rfl, hb3⟩)
      | (go_at_call 9; refine (KA.out _).mono ?_; rintro e w2 ⟨rfl, hb2⟩))
    go_ret
    have hb13 := hb1.trans (hb3.mono hb1.size)
    exact ⟨rfl, hb13.trans (hb2.mono hb13.size)⟩

theorem walk (a0 : Int) (a1 : Int) (w0 : (Lit.int .u8 a0).wf = true) (w1 : (Lit.int .u8 a1).wf = true) (w : World) :
    Calls Try.prog 3 #[.int .u8 a0, .int .u8 a1] w fun e w' => e = .returned (.bool true) ∧ Below w.heap.size w w' := by
  obtain ⟨p0, p1⟩ := bounds_u8 w0
  obtain ⟨q0, q1⟩ := bounds_u8 w1
  have h := walkU (UInt8.ofNat a0.toNat) (UInt8.ofNat a1.toNat) w
  rw [UInt8.toNat_ofNat', UInt8.toNat_ofNat', show (((a0.toNat % 2 ^ 8 : Nat)) : Int) = a0 from by omega, show (((a1.toNat % 2 ^ 8 : Nat)) : Int) = a1 from by omega] at h
  exact h

set_option maxRecDepth 100000 in
theorem lifted (os : Os) (started : os.Started) (H : Type) (enc : TypeId × Value → H) :
    ReturnsInHanded {} Try.checked os 3 .any (Rows.johabSignsSpec.pre6 enc Try.prog Try.f3 Rows.johabSignsRow.domain false) (Rows.johabSignsSpec.post enc Try.prog Try.f3 false true false false) := by
  refine returnsInHanded_of_change (C := Try.checked) own started (by kernel_rfl) Try.func3
    (ChangeSpec.witness6 (enc := enc) (C := Try.checked) false ⟨#[], #[.int .u8 0, .int .u8 0], []⟩ 8 (by kernel_rfl) (by kernel_rfl) (by kernel_rfl) (by kernel_rfl)) ?_
  intro W base args ds gs before hval0 hW hcnd _
  have hval : ∀ (j : Nat) t v, Try.f3.params[j]? = some t → args[j]? = some v → Value.okWide Try.prog W .any base t v := hval0
  have hW' := hW
  obtain ⟨p, q, hA0, hV, rfl, hfz, hnd⟩ := hW
  have hA : DataW.TrodAll enc Try.prog W 0 (fun _ => true) true Try.f3.params.toList args.toList ds p := hA0
  rw [Try.params3] at hA hval
  obtain ⟨v0, vs0, d0, ds0, p0, q0, hargs, rfl, rfl, h0, r0⟩ := trodAll_cons hA
  obtain ⟨v1, vs1, d1, ds1, p1, q1, rfl, rfl, rfl, h1, r1⟩ := trodAll_cons r0
  obtain ⟨rfl, rfl, rfl⟩ := trodAll_nil r1
  obtain rfl : args = #[v0, v1] := by cases args; simp_all
  obtain ⟨rfl, rfl⟩ := trodVars_none hV
  obtain ⟨a0, rfl, rfl, rfl, w0⟩ := open_int Try.underlying5 (hval 0 5 v0 rfl rfl) h0
  obtain ⟨a1, rfl, rfl, rfl, w1⟩ := open_int Try.underlying5 (hval 1 5 v1 rfl rfl) h1
  clear hA0 hval0
  simp only [List.append_nil] at hW'
  refine (walk a0 a1 w0 w1 W).mono fun e W' ⟨he, hg⟩ => ?_
  subst he
  exact ⟨_, rfl, post_below (pa := []) (pv := []) hW' (trodAll_cons_mk (shut_bool Try.underlying4 _) trodAll_mk0) (trodAll_cons_mk (shut_int Try.underlying5 w0) (trodAll_cons_mk (shut_int Try.underlying5 w1) trodAll_mk0)) rfl hg⟩

theorem over : Rows.johabSignsRow.holds Try.pinned (OpenSpec.ofChange Rows.johabSignsSpec) :=
  OpenClaim.holds_of_wide 3 Try.f3 rfl rfl rfl rfl rfl rfl rfl ⟨rfl, rfl, rfl, rfl, rfl⟩ rfl rfl rfl rfl rfl (by kernel_rfl) Try.func3 (by kernel_rfl)
    (of_decide_eq_true (by kernel_rfl)) (by unfold Func.isWrapper; first | (rw [if_pos (by decide +kernel)]; kernel_rfl) | (rw [if_neg (by decide +kernel)]; exact ⟨rfl, rfl⟩))
    (fun os started H enc _ => lifted os started H enc)

/-- THE STATEMENT -/
theorem proved : Rows.JohabSignsSaid :=
  over
#print axioms proved
end Go.Proofs.Ythboonolnnjdeaa.johabSigns
