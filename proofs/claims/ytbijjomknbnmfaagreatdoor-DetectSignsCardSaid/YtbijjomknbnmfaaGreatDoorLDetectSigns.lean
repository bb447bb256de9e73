/- DetectSigns holds: of what is encoded as signs again the charset is that of signs, whatever charset bytes are read in. No condition. -/
import Derived.Test.YtbijjomknbnmfaaGreatDoorFr
import Derived.Test.YtbijjomknbnmfaaGreatDoorTie
import Derived.Test.YtbijjomknbnmfaaGreatDoorCards
import Derived.Test.YtbijjomknbnmfaaGreatDoorKz
import Derived.Test.YtbijjomknbnmfaaGreatDoorKDetectSigns
import Derived.Test.YtbijjomknbnmfaaGreatDoorA10
import Derived.Test.YtbijjomknbnmfaaGreatDoorVa
namespace Go.Proofs.YtbijjomknbnmfaaGreatDoor.detectSigns
open Go.ChangeShapes Go.WideShapes Go.ChangeAt Go.RowKit Go.ChangeMaps
set_option linter.unusedVariables false
set_option linter.unusedSimpArgs false

set_option maxHeartbeats 4000000 in
theorem walk (c : Int) (b d : ByteArray) (fb : Int) (g : Bool) (w0 : (Lit.int .i64 c).wf = true) (w1 : b.size ≤ maxLen) (w2 : d.size ≤ maxLen) (w3 : (Lit.int .i64 fb).wf = true) (w : World) (hT : TW w) :
    Calls Tryz.prog 14 #[.int .i64 c, .string b, .string d, .int .i64 fb, .bool g] w fun e w' => e = .returned (.bool true) ∧ Below w.heap.size w w' := by
  have KA := Lib.hid awake10in_any
  by_cases h1 : 100 < b.size
  · go_enter Tryz.func14, Tryz.ntmps14
    go_wp2_with (go_at_call 26; refine (KA.out _ hT).mono ?_; rintro e w1 ⟨rfl, hb1⟩)
    go_ret
    exact ⟨rfl, hb1⟩
  by_cases h2 : 50 < d.size
  · go_enter Tryz.func14, Tryz.ntmps14
    go_wp2_with (go_at_call 26; refine (KA.out _ hT).mono ?_; rintro e w1 ⟨rfl, hb1⟩)
    go_ret
    exact ⟨rfl, hb1⟩
  have k1 := fun w => dec9_any c b w (by omega)
  unfold D9Post at k1
  by_cases hok : 0 ≤ c ∧ c ≤ 9 ∧ (decT (tokC c) (bl b)).2 = none
  · obtain ⟨h0, h9, hn⟩ := hok
    rcases hd : decT (tokC c) (bl b) with ⟨t, o⟩
    rw [hd] at hn
    simp only at hn
    subst hn
    have hv := valid_C c h0 (bl b) t hd
    have hl := decT_short (short_C c) (bl b)
    rw [hd] at hl
    simp only at hl
    rw [bl_length] at hl
    obtain ⟨T, hTT⟩ : ∃ T : ByteArray, T = ⟨t.toArray⟩ := ⟨_, rfl⟩
    have hTl : T.size ≤ 1048576 := by rw [← bl_length, hTT]; show t.length ≤ _; omega
    have e9 : dec9V c (bl b) = .tuple #[.string T, .int .i64 0, .int .i64 0] := by
      unfold dec9V; rw [if_pos ⟨h0, h9⟩, hd, hTT]; rfl
    rw [e9] at k1
    have hr : resM (bl T) (bl d) fb g = 7 := by
      unfold resM
      rw [if_pos]
      rw [hTT]
      show (scanL t).2.isNone = true
      rw [hv]; rfl
    have k2 := fun w hT => resolve_any T d 0 fb 0 g w hT hTl (by omega)
    rw [hr] at k2
    have K1 := Lib.hid k1
    have K2 := Lib.hid k2
    clear k1 k2
    clear e9 hr hTT hl hv hd
    go_enter Tryz.func14, Tryz.ntmps14
    go_wp2_with (first
      | (go_at_call 24; refine (K1.out _).mono ?_; rintro e w1 ⟨rfl, hb1⟩)
      | (go_at_call 26; refine (KA.out _ (hT.bel hb1)).mono ?_; rintro e w2 ⟨rfl, hb2⟩)
      | (go_at_call 38; refine (K2.out _ (hT.bel (bt hb1 hb2))).mono ?_; rintro e w3 ⟨rfl, hb3⟩))
    go_ret
    exact ⟨rfl, bt (bt hb1 hb2) hb3⟩
  · obtain ⟨u, x, y, e9, hx⟩ : ∃ (u : ByteArray) (x y : Int), dec9V c (bl b) = .tuple #[.string u, .int .i64 x, .int .i64 y] ∧ x ≠ 0 := by
      unfold dec9V dec9R
      by_cases h : 0 ≤ c ∧ c ≤ 9
      · rw [if_pos h]
        cases ho : (decT (tokC c) (bl b)).2 with
        | none => exact absurd ⟨h.1, h.2, ho⟩ hok
        | some k => exact ⟨_, _, _, rfl, by simp [codeI]⟩
      · rw [if_neg h]
        exact ⟨_, _, _, rfl, by simp⟩
    rw [e9] at k1
    have hxB : (x != 0) = true := by simpa using hx
    have K1 := Lib.hid k1
    clear k1
    clear e9 hok
    go_enter Tryz.func14, Tryz.ntmps14
    go_wp2_with (first
      | (go_at_call 24; refine (K1.out _).mono ?_; rintro e w1 ⟨rfl, hb1⟩)
      | (go_at_call 26; refine (KA.out _ (hT.bel hb1)).mono ?_; rintro e w2 ⟨rfl, hb2⟩))
    go_ret
    exact ⟨rfl, bt hb1 hb2⟩

set_option maxRecDepth 100000 in
theorem lifted (os : Os) (started : os.Started) (H : Type) (enc : TypeId × Value → H) :
    ReturnsInHanded {} Tryz.checked os 14 .any (fun w args => (Rows.detectSignsSpec.pre enc Tryz.prog Tryz.f14 Rows.detectSignsRow.domain false w args ∧ laidMetH Tryz.prog laid3 w) ∧ sizedMet enc Tryz.prog Tryz.f14 (OpenSpec.ofChange Rows.detectSignsSpec) false w args) (Rows.detectSignsSpec.post enc Tryz.prog Tryz.f14 false true false false) := by
  refine handed_laid_shaped (C := Tryz.checked) (X := fun w => laidMetH Tryz.prog laid3 w) (fun _ _ hh h => h.of_heap hh) own started (by kernel_rfl) Tryz.func14
    (ChangeSpec.witness_shaped (enc := enc) (C := Tryz.checked) (os := os) (X := fun w _ => laidMetH Tryz.prog laid3 w) false (World.laidAll Tryz.prog os laid3) #[.int .i64 0, .string ByteArray.empty, .string ByteArray.empty, .int .i64 0, .bool false] 8 (World.laidAll_os _ _ _) (laid_shaped os _) (by kernel_rfl) (by kernel_rfl) (by kernel_rfl) (laid_met os _)) ?_
  intro W base args ds gs before hval0 hW hL hsh
  have hT := tw_of_laid hL hsh
  have hval : ∀ (j : Nat) t v, Tryz.f14.params[j]? = some t → args[j]? = some v → Value.okWide Tryz.prog W .any base t v := hval0
  have hW' := hW
  obtain ⟨p, q, hA0, hV, rfl, hfz, hnd⟩ := hW
  have hA : DataW.TrodAll enc Tryz.prog W 0 (fun _ => true) true Tryz.f14.params.toList args.toList ds p := hA0
  rw [Tryz.params14] at hA hval
  obtain ⟨v0, vs0, d0, ds0, p0, q0, hargs, rfl, rfl, h0, r0⟩ := trodAll_cons hA
  obtain ⟨v1, vs1, d1, ds1, p1, q1, rfl, rfl, rfl, h1, r1⟩ := trodAll_cons r0
  obtain ⟨v2, vs2, d2, ds2, p2, q2, rfl, rfl, rfl, h2, r2⟩ := trodAll_cons r1
  obtain ⟨v3, vs3, d3, ds3, p3, q3, rfl, rfl, rfl, h3, r3⟩ := trodAll_cons r2
  obtain ⟨v4, vs4, d4, ds4, p4, q4, rfl, rfl, rfl, h4, r4⟩ := trodAll_cons r3
  obtain ⟨rfl, rfl, rfl⟩ := trodAll_nil r4
  obtain rfl : args = #[v0, v1, v2, v3, v4] := by cases args; simp_all
  obtain ⟨rfl, rfl⟩ := trodVars_none hV
  obtain ⟨a0, rfl, rfl, rfl, w0⟩ := open_int Tryz.underlying3 (hval 0 3 v0 rfl rfl) h0
  obtain ⟨a1, rfl, rfl, rfl, w1⟩ := open_string Tryz.underlying9 (hval 1 9 v1 rfl rfl) h1
  obtain ⟨a2, rfl, rfl, rfl, w2⟩ := open_string Tryz.underlying9 (hval 2 9 v2 rfl rfl) h2
  obtain ⟨a3, rfl, rfl, rfl, w3⟩ := open_int Tryz.underlying3 (hval 3 3 v3 rfl rfl) h3
  obtain ⟨a4, rfl, rfl, rfl⟩ := open_bool Tryz.underlying4 (hval 4 4 v4 rfl rfl) h4
  clear hA0 hval0
  simp only [List.append_nil] at hW'
  refine (walk a0 a1 a2 a3 a4 w0 w1 w2 w3 W hT).mono fun e W' ⟨he, hg⟩ => ?_
  subst he
  exact ⟨_, rfl, post_below (pa := []) (pv := []) hW' (trodAll_cons_mk (shut_bool Tryz.underlying4 _) trodAll_mk0) (trodAll_cons_mk (shut_int Tryz.underlying3 w0) (trodAll_cons_mk (shut_string Tryz.underlying9 w1) (trodAll_cons_mk (shut_string Tryz.underlying9 w2) (trodAll_cons_mk (shut_int Tryz.underlying3 w3) (trodAll_cons_mk (shut_bool Tryz.underlying4 a4) trodAll_mk0))))) rfl hg⟩

theorem over : Rows.detectSignsRow.holds Tryz.pinned (OpenSpec.ofChange Rows.detectSignsSpec) :=
  OpenClaim.holds_of_wide 14 Tryz.f14 rfl rfl rfl rfl rfl rfl rfl ⟨rfl, rfl, rfl, rfl, rfl⟩ rfl rfl rfl rfl rfl k_named Tryz.func14 k_joined (of_decide_eq_true (by kernel_rfl)) k_wrap
    (fun os started H enc _ => lifted os started H enc)

/-- THE STATEMENT: the tied card -/
theorem proved : Rows.DetectSignsCardSaid :=
  Claim7.holds_tied_plain_at .later [] [.data, .data, .pinned] true Rows.detectSignsCard.stood.harness Rows.detectSignsCard.stood.looks over (fun _ h => by cases h) k_wf (fun _ h => by cases h) detectSigns_row_tie rfl ⟨rfl, rfl⟩ k_main rfl
    (fun f fn hf hfn => by
      obtain rfl : f = 14 := Option.some.inj (k_named.symm.trans hf) |>.symm
      obtain rfl : fn = Tryz.f14 := (Option.some.inj (Tryz.func14.symm.trans hfn)).symm
      exact ⟨k_looks, fun j t ht => by
        rw [Tryz.params14] at ht
        have hm : t ∈ [3, 9, 9, 3, 4] := by simpa using Array.mem_of_getElem? ht
        exact (show Tryz.prog.wantsStandIn t = false by simpa using List.all_eq_true.1 k_stand t hm)⟩)
    k_goes
#print axioms proved
end Go.Proofs.YtbijjomknbnmfaaGreatDoor.detectSigns
