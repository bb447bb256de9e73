/- JohabBytes holds: the two bytes of any sign, or that it has none, are the document's, and lead back to it. No condition. -/
import Derived.Test.YthboonolnnjdeaaFrame
import Derived.Test.YthboonolnnjdeaaJWalk7
import Derived.Deep.QuietTactic
import Derived.BigQuiet
namespace Go.Proofs.Ythboonolnnjdeaa.johabBytes
open Go.ChangeShapes Go.WideShapes Go.ChangeAt Go.RowKit
set_option linter.unusedVariables false

set_option maxHeartbeats 1000000 in
theorem walk_none (p : Int) (h0 : -2147483648 ≤ p) (h1 : p ≤ 2147483647) (h : ¬ hasJ p) (w : World) :
    Calls Try.prog 4 #[.int .i32 p] w fun e w' => e = .returned (.bool true) ∧ Below w.heap.size w w' := by
  have k1 := fun w => bytes_hasnt p w h0 h1 h
  have k2 := fun w => refCode_none p w h0 h1 h
  have K1 := Lib.hid k1
  have K2 := Lib.hid k2
  have KA := Lib.hid awake06in_any
  clear k1 k2 h
  go_enter Try.func4, Try.ntmps4
  go_wp2_with (first
    | (go_at_call 10; refine (K1.out _).mono ?_; rintro e w1 ⟨rfl, hb1⟩)
    | (go_at_call 11; refine (K2.out _).mono ?_; rintro e w2 ⟨rfl, hb2⟩)
    | (go_at_call 9; refine (KA.out _).mono ?_; rintro e w3 ⟨rfl, hb3⟩))
  go_ret
  have h12 := hb1.trans (hb2.mono hb1.size)
  exact ⟨rfl, h12.trans (hb3.mono h12.size)⟩

set_option maxHeartbeats 1000000 in
theorem walk_has (p : Int) (L T : UInt8) (h : hasJ p) (hc : codeJ p = (L.toNat : Int) * 256 + (T.toNat : Int)) (hs : signJ ((L.toNat : Int) * 256 + (T.toNat : Int)) = p) (w : World) :
    Calls Try.prog 4 #[.int .i32 p] w fun e w' => e = .returned (.bool true) ∧ Below w.heap.size w w' := by
  have hL := L.toNat_lt
  have hT := T.toNat_lt
  have hp0 : p ≠ 0 := by unfold hasJ at h; omega
  have k1 := fun w => bytes_has p L T w h hc
  have k2 := fun w => refCode_has p w h
  rw [hc] at k2
  have k3 := fun w => sign_any L.toNat T.toNat w (by omega) (by omega) (by omega) (by omega)
  unfold signJB at k3
  rw [hs, show (!decide (p = 0)) = true from by simpa using hp0] at k3
  have x0 : ∀ h, ((⟨#[L, T]⟩ : ByteArray)[0]'h) = L := fun _ => rfl
  have x1 : ∀ h, ((⟨#[L, T]⟩ : ByteArray)[1]'h) = T := fun _ => rfl
  have q1 : ((L.toNat : Int) * 256 + (T.toNat : Int)) / 256 = L.toNat := by omega
  have q2 : ((L.toNat : Int) * 256 + (T.toNat : Int)) % 256 = T.toNat := by omega
  have hcv : ∀ (W : World), (convert 30 9 (.slice (some ⟨W.heap.size, 0, none⟩) 2 2)).run Try.prog (W.alloc (.cells #[.int .u8 (L.toNat : Int), .int .u8 (T.toNat : Int)] 5)) =
      .ok (.string ⟨#[L, T]⟩) (W.alloc (.cells #[.int .u8 (L.toNat : Int), .int .u8 (T.toNat : Int)] 5)) := by
    intro W
    exact conv_own (l := [L, T]) 30 9 Try.underlying30 Try.underlying5 Try.underlying9 (World.ownsRow_lit (size := 1) (base := W.heap.size) W #[.int .u8 (L.toNat : Int), .int .u8 (T.toNat : Int)] 2 (Nat.le_refl _) (by decide) rfl)
  have K1 := Lib.hid k1
  have K2 := Lib.hid k2
  have K3 := Lib.hid k3
  have KA := Lib.hid awake06in_any
  clear k1 k2 k3 h hc hs
  go_enter Try.func4, Try.ntmps4
  go_wp2_with (first
    | (go_at_call 10; refine (K1.out _).mono ?_; rintro e w1 ⟨rfl, hb1⟩)
    | (go_at_call 11; refine (K2.out _).mono ?_; rintro e w2 ⟨rfl, hb2⟩)
    | (go_at_call 9; refine (KA.out _).mono ?_; rintro e w3 ⟨rfl, hb3⟩))
  go_quiet ((go_at_call 7; exact Calls.quiet_of_same ((K3.out _).mono fun e w' h => ⟨h.1, h.2.symm⟩)))
  go_wp2_with (go_at_call 9; refine (KA.out _).mono ?_; rintro e w3 ⟨rfl, hb3⟩)
  go_ret
  exact ⟨rfl, bt (bdn (bal (bt hb1 hb2) _) _) hb3⟩

theorem walk (a0 : Int) (w0 : (Lit.int .i32 a0).wf = true) (w : World) :
    Calls Try.prog 4 #[.int .i32 a0] w fun e w' => e = .returned (.bool true) ∧ Below w.heap.size w w' := by
  obtain ⟨p0, p1⟩ := bounds_i32 w0
  by_cases h : hasJ a0
  · have hr := codeJ_range a0 h
    have e : codeJ a0 = ((UInt8.ofNat (codeJ a0 / 256).toNat).toNat : Int) * 256 + ((UInt8.ofNat (codeJ a0 % 256).toNat).toNat : Int) := by
      rw [UInt8.toNat_ofNat', UInt8.toNat_ofNat']; omega
    exact walk_has a0 _ _ h e (by rw [← e]; exact sign_code a0 h) w
  · exact walk_none a0 p0 p1 h w

set_option maxRecDepth 100000 in
theorem lifted (os : Os) (started : os.Started) (H : Type) (enc : TypeId × Value → H) :
    ReturnsInHanded {} Try.checked os 4 .any (Rows.johabBytesSpec.pre6 enc Try.prog Try.f4 Rows.johabBytesRow.domain false) (Rows.johabBytesSpec.post enc Try.prog Try.f4 false true false false) := by
  refine returnsInHanded_of_change (C := Try.checked) own started (by kernel_rfl) Try.func4
    (ChangeSpec.witness6 (enc := enc) (C := Try.checked) false ⟨#[], #[.int .i32 0], []⟩ 8 (by kernel_rfl) (by kernel_rfl) (by kernel_rfl) (by kernel_rfl)) ?_
  intro W base args ds gs before hval0 hW hcnd _
  have hval : ∀ (j : Nat) t v, Try.f4.params[j]? = some t → args[j]? = some v → Value.okWide Try.prog W .any base t v := hval0
  have hW' := hW
  obtain ⟨p, q, hA0, hV, rfl, hfz, hnd⟩ := hW
  have hA : DataW.TrodAll enc Try.prog W 0 (fun _ => true) true Try.f4.params.toList args.toList ds p := hA0
  rw [Try.params4] at hA hval
  obtain ⟨v0, vs0, d0, ds0, p0, q0, hargs, rfl, rfl, h0, r0⟩ := trodAll_cons hA
  obtain ⟨rfl, rfl, rfl⟩ := trodAll_nil r0
  obtain rfl : args = #[v0] := by cases args; simp_all
  obtain ⟨rfl, rfl⟩ := trodVars_none hV
  obtain ⟨a0, rfl, rfl, rfl, w0⟩ := open_int Try.underlying21 (hval 0 21 v0 rfl rfl) h0
  clear hA0 hval0
  simp only [List.append_nil] at hW'
  refine (walk a0 w0 W).mono fun e W' ⟨he, hg⟩ => ?_
  subst he
  exact ⟨_, rfl, post_below (pa := []) (pv := []) hW' (trodAll_cons_mk (shut_bool Try.underlying4 _) trodAll_mk0) (trodAll_cons_mk (shut_int Try.underlying21 w0) trodAll_mk0) rfl hg⟩

theorem over : Rows.johabBytesRow.holds Try.pinned (OpenSpec.ofChange Rows.johabBytesSpec) :=
  OpenClaim.holds_of_wide 4 Try.f4 rfl rfl rfl rfl rfl rfl rfl ⟨rfl, rfl, rfl, rfl, rfl⟩ rfl rfl rfl rfl rfl (by kernel_rfl) Try.func4 (by kernel_rfl)
    (of_decide_eq_true (by kernel_rfl)) (by unfold Func.isWrapper; first | (rw [if_pos (by decide +kernel)]; kernel_rfl) | (rw [if_neg (by decide +kernel)]; exact ⟨rfl, rfl⟩))
    (fun os started H enc _ => lifted os started H enc)

/-- THE STATEMENT -/
theorem proved : Rows.JohabBytesSaid :=
  over
#print axioms proved
end Go.Proofs.Ythboonolnnjdeaa.johabBytes
