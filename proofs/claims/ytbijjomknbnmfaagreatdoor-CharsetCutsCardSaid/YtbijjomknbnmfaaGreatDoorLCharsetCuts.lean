/- CharsetCuts holds: behind bytes that are a text in a charset others are what they are alone. No condition. -/
import Derived.Test.YtbijjomknbnmfaaGreatDoorFr
import Derived.Test.YtbijjomknbnmfaaGreatDoorTie
import Derived.Test.YtbijjomknbnmfaaGreatDoorCards
import Derived.Test.YtbijjomknbnmfaaGreatDoorKz
import Derived.Test.YtbijjomknbnmfaaGreatDoorKCharsetCuts
import Derived.Test.YtbijjomknbnmfaaGreatDoorCk
namespace Go.Proofs.YtbijjomknbnmfaaGreatDoor.charsetCuts
open Go.ChangeShapes Go.WideShapes Go.ChangeAt Go.RowKit Go.ChangeMaps
set_option linter.unusedVariables false
set_option linter.unusedSimpArgs false

set_option maxHeartbeats 4000000 in
theorem walk_out (c : Int) (a b : ByteArray) (h : 100 < a.size ∨ 100 < b.size ∨ c < 0 ∨ 7 < c) (w : World) (hT : TW w) :
    Calls Tryz.prog 3 #[.int .i64 c, .string a, .string b] w fun e w' => e = .returned (.bool true) ∧ Below w.heap.size w w' := by
  have KA := Lib.hid awake09in_any
  have fin : Calls Tryz.prog 3 #[.int .i64 c, .string a, .string b] w fun e w' => e = .returned (.bool true) ∧ Below w.heap.size w w' := by
    by_cases h1 : 100 < a.size
    · go_enter Tryz.func3, Tryz.ntmps3
      go_wp2_with (go_at_call 15; refine (KA.out _ hT).mono ?_; rintro e w1 ⟨rfl, hb1⟩)
      go_ret
      exact ⟨rfl, hb1⟩
    · by_cases h2 : 100 < b.size
      · clear h
        go_enter Tryz.func3, Tryz.ntmps3
        go_wp2_with (go_at_call 15; refine (KA.out _ hT).mono ?_; rintro e w1 ⟨rfl, hb1⟩)
        go_ret
        exact ⟨rfl, hb1⟩
      · by_cases h3 : c < 0
        · clear h
          go_enter Tryz.func3, Tryz.ntmps3
          go_wp2_with (go_at_call 15; refine (KA.out _ hT).mono ?_; rintro e w1 ⟨rfl, hb1⟩)
          go_ret
          exact ⟨rfl, hb1⟩
        · have h4 : 7 < c := by omega
          clear h
          go_enter Tryz.func3, Tryz.ntmps3
          go_wp2_with (go_at_call 15; refine (KA.out _ hT).mono ?_; rintro e w1 ⟨rfl, hb1⟩)
          go_ret
          exact ⟨rfl, hb1⟩
  exact fin

theorem app_list (a b : ByteArray) : bl (a ++ b) = bl a ++ bl b := by simp [bl]
set_option maxHeartbeats 4000000 in
theorem walk_in (c : Int) (a b : ByteArray) (h1 : a.size ≤ 100) (h2 : b.size ≤ 100) (h3 : 0 ≤ c) (h4 : c ≤ 7) (w : World) (hT : TW w) :
    Calls Tryz.prog 3 #[.int .i64 c, .string a, .string b] w fun e w' => e = .returned (.bool true) ∧ Below w.heap.size w w' := by
  have KA := Lib.hid awake09in_any
  have KB := Lib.hid bad_any
  have hab : (a ++ b).size ≤ 1073741824 := by rw [← bl_length, app_list, List.length_append, bl_length, bl_length]; omega
  have k1 := fun w hT => cdecode_any c a w hT (by omega)
  have k2 := fun w hT => cdecode_any c b w hT (by omega)
  have k3 := fun w hT => cdecode_any c (a ++ b) w hT hab
  rw [decV_in c _ (by omega)] at k1 k2 k3
  rcases hx : decT (tokC c) (bl a) with ⟨x, o1⟩
  rw [hx] at k1
  simp only at k1
  obtain ⟨X, hX⟩ : ∃ X : ByteArray, X = ⟨x.toArray⟩ := ⟨_, rfl⟩
  rw [← hX] at k1
  cases o1 with
  | some k =>
    simp only [faultV] at k1
    have K1 := Lib.hid k1
    clear k1
    clear k2 k3 hx hX
    go_enter Tryz.func3, Tryz.ntmps3
    go_wp2_with (first
      | (go_at_call 16; refine (K1.out _ hT).mono ?_; rintro e w1 ⟨rfl, hb1⟩)
      | (go_at_call 17; refine (KB.out _ _ _).mono ?_; rintro e w2 ⟨rfl, hb2⟩)
      | (go_at_call 15; refine (KA.out _ (hT.bel (bt (bal hb1 _) hb2))).mono ?_; rintro e w3 ⟨rfl, hb3⟩))
    go_ret
    exact ⟨rfl, bt (bt (bal hb1 _) hb2) hb3⟩
  | none =>
    have hc := decT_cut (near_C c h4) (bl a) (bl b) x hx
    rw [app_list, hc] at k3
    rcases hy : decT (tokC c) (bl b) with ⟨y, o2⟩
    rw [hy] at k2 k3
    obtain ⟨Y, hY⟩ : ∃ Y : ByteArray, Y = ⟨y.toArray⟩ := ⟨_, rfl⟩
    cases o2 with
    | some k =>
      simp only [faultV] at k1 k2 k3
      rw [← hY] at k2
      have hsum : IntKind.i64.wrap ((a.size : Int) + (k : Int)) = (((bl a).length + k : Nat) : Int) := by
        have hk : k ≤ b.size := by have := runT_le (near_C c h4) _ _ _ _ _ _ hy; rw [bl_length] at this; omega
        rw [bl_length, wraps_i64 _ (by omega) (by omega)]; omega
      generalize (bl a).length + k = m at *
      have K1 := Lib.hid k1
      have K2 := Lib.hid k2
      have K3 := Lib.hid k3
      clear k1 k2 k3
      clear hx hy hc hX hY
      go_enter Tryz.func3, Tryz.ntmps3
      go_wp2_with fail
      refine (K1.out _ hT).mono ?_
      rintro e w1 ⟨rfl, hb1⟩
      go_wp2_with (go_at_call 17; refine (KB.out _ _ _).mono ?_; rintro e w2 ⟨rfl, hb2⟩)
      have hc2 := bt (bal hb1 (.cells #[.int .i64 0, .int .i64 0] 25)) hb2
      refine (K2.out _ (hT.bel hc2)).mono ?_
      rintro e w3 ⟨rfl, hb3⟩
      have hc3 := bal (bt hc2 hb3) (.cells #[.int .i64 2, .int .i64 k] 25)
      have g0 := Live.fresh w3 #[.int .i64 2, .int .i64 k] 25 0 _ rfl
      have g1 := Live.fresh w3 #[.int .i64 2, .int .i64 k] 25 1 _ rfl
      have HC3 := Lib.hid hc3
      have G0 := Lib.hid g0
      have G1 := Lib.hid g1
      clear hc3 g0 g1
      clear hb1 hb2 hb3 hc2
      go_wp2_with fail
      refine (K3.out _ (hT.bel HC3.out)).mono ?_
      rintro e w4 ⟨rfl, hb4⟩
      have hq4 := bal (Below.refl w4.heap.size w4) (.cells #[.int .i64 2, .int .i64 m] 25)
      have hc4 := bt (bt HC3.out hb4) hq4
      obtain ⟨g0, _⟩ := (G0.out.keep hb4).keep hq4
      obtain ⟨g1, _⟩ := (G1.out.keep hb4).keep hq4
      obtain ⟨f0, _⟩ := Live.fresh w4 #[.int .i64 2, .int .i64 m] 25 0 _ rfl
      obtain ⟨f1, _⟩ := Live.fresh w4 #[.int .i64 2, .int .i64 m] 25 1 _ rfl
      clear hb4 hq4
      go_wp2_with (first
        | (go_at_call 17; refine (KB.out _ _ _).mono ?_; rintro e w5 ⟨rfl, hb5⟩; have hc4 := bt hc4 hb5; have g0 := kc hb5 g0; have g1 := kc hb5 g1; have f0 := kc hb5 f0; have f1 := kc hb5 f1)
        | (go_at_call 15; refine (KA.out _ (hT.bel hc4)).mono ?_; rintro e w5 ⟨rfl, hb5⟩; have hc4 := bt hc4 hb5; have g0 := kc hb5 g0; have g1 := kc hb5 g1; have f0 := kc hb5 f0; have f1 := kc hb5 f1))
      go_ret
      exact ⟨rfl, hc4⟩
    | none =>
      simp only [faultV] at k1 k2 k3
      obtain ⟨Z, hZ⟩ : ∃ Z : ByteArray, Z = ⟨(x ++ y).toArray⟩ := ⟨_, rfl⟩
      rw [← hY] at k2
      rw [← hZ] at k3
      have hz : (Z.toList == (X ++ Y).toList) = true := by
        have : Z = X ++ Y := by
          rw [hZ, hX, hY]; apply ByteArray.ext; simp
        rw [this]; simp
      have hxy : X.size + Y.size ≤ 1000000 := by
        have q1 := decT_short (short_C c) (bl a)
        have q2 := decT_short (short_C c) (bl b)
        rw [hx, bl_length] at q1
        rw [hy, bl_length] at q2
        have e1 : X.size = x.length := by rw [hX]; rfl
        have e2 : Y.size = y.length := by rw [hY]; rfl
        simp only at q1 q2
        omega
      clear hZ
      have K1 := Lib.hid k1
      have K2 := Lib.hid k2
      have K3 := Lib.hid k3
      clear k1 k2 k3
      clear hx hy hc hX hY
      go_enter Tryz.func3, Tryz.ntmps3
      go_wp2_with fail
      refine (K1.out _ hT).mono ?_
      rintro e w1 ⟨rfl, hb1⟩
      go_wp2_with (go_at_call 17; refine (KB.out _ _ _).mono ?_; rintro e w2 ⟨rfl, hb2⟩)
      have hc2 := bt (bal hb1 (.cells #[.int .i64 0, .int .i64 0] 25)) hb2
      refine (K2.out _ (hT.bel hc2)).mono ?_
      rintro e w3 ⟨rfl, hb3⟩
      have hc3 := bal (bt hc2 hb3) (.cells #[.int .i64 0, .int .i64 0] 25)
      have g0 := Live.fresh w3 #[.int .i64 0, .int .i64 0] 25 0 _ rfl
      have g1 := Live.fresh w3 #[.int .i64 0, .int .i64 0] 25 1 _ rfl
      have HC3 := Lib.hid hc3
      have G0 := Lib.hid g0
      have G1 := Lib.hid g1
      clear hc3 g0 g1
      clear hb1 hb2 hb3 hc2
      go_wp2_with fail
      refine (K3.out _ (hT.bel HC3.out)).mono ?_
      rintro e w4 ⟨rfl, hb4⟩
      have hq4 := bal (Below.refl w4.heap.size w4) (.cells #[.int .i64 0, .int .i64 0] 25)
      have hc4 := bt (bt HC3.out hb4) hq4
      obtain ⟨g0, _⟩ := (G0.out.keep hb4).keep hq4
      obtain ⟨g1, _⟩ := (G1.out.keep hb4).keep hq4
      obtain ⟨f0, _⟩ := Live.fresh w4 #[.int .i64 0, .int .i64 0] 25 0 _ rfl
      obtain ⟨f1, _⟩ := Live.fresh w4 #[.int .i64 0, .int .i64 0] 25 1 _ rfl
      clear hb4 hq4
      go_wp2_with (first
        | (go_at_call 17; refine (KB.out _ _ _).mono ?_; rintro e w5 ⟨rfl, hb5⟩; have hc4 := bt hc4 hb5; have g0 := kc hb5 g0; have g1 := kc hb5 g1; have f0 := kc hb5 f0; have f1 := kc hb5 f1)
        | (go_at_call 15; refine (KA.out _ (hT.bel hc4)).mono ?_; rintro e w5 ⟨rfl, hb5⟩; have hc4 := bt hc4 hb5; have g0 := kc hb5 g0; have g1 := kc hb5 g1; have f0 := kc hb5 f0; have f1 := kc hb5 f1))
      go_ret
      exact ⟨rfl, hc4⟩
theorem walk (a0 : Int) (a1 a2 : ByteArray) (w0 : (Lit.int .i64 a0).wf = true) (w1 : a1.size ≤ maxLen) (w2 : a2.size ≤ maxLen) (w : World) (hT : TW w) :
    Calls Tryz.prog 3 #[.int .i64 a0, .string a1, .string a2] w fun e w' => e = .returned (.bool true) ∧ Below w.heap.size w w' := by
  by_cases h : a1.size ≤ 100 ∧ a2.size ≤ 100 ∧ 0 ≤ a0 ∧ a0 ≤ 7
  · exact walk_in a0 a1 a2 h.1 h.2.1 h.2.2.1 h.2.2.2 w hT
  · exact walk_out a0 a1 a2 (by omega) w hT

set_option maxRecDepth 100000 in
theorem lifted (os : Os) (started : os.Started) (H : Type) (enc : TypeId × Value → H) :
    ReturnsInHanded {} Tryz.checked os 3 .any (fun w args => (Rows.charsetCutsSpec.pre enc Tryz.prog Tryz.f3 Rows.charsetCutsRow.domain false w args ∧ laidMetH Tryz.prog laid3 w) ∧ sizedMet enc Tryz.prog Tryz.f3 (OpenSpec.ofChange Rows.charsetCutsSpec) false w args) (Rows.charsetCutsSpec.post enc Tryz.prog Tryz.f3 false true false false) := by
  refine handed_laid_shaped (C := Tryz.checked) (X := fun w => laidMetH Tryz.prog laid3 w) (fun _ _ hh h => h.of_heap hh) own started (by kernel_rfl) Tryz.func3
    (ChangeSpec.witness_shaped (enc := enc) (C := Tryz.checked) (os := os) (X := fun w _ => laidMetH Tryz.prog laid3 w) false (World.laidAll Tryz.prog os laid3) #[.int .i64 0, .string ByteArray.empty, .string ByteArray.empty] 8 (World.laidAll_os _ _ _) (laid_shaped os _) (by kernel_rfl) (by kernel_rfl) (by kernel_rfl) (laid_met os _)) ?_
  intro W base args ds gs before hval0 hW hL hsh
  have hT := tw_of_laid hL hsh
  have hval : ∀ (j : Nat) t v, Tryz.f3.params[j]? = some t → args[j]? = some v → Value.okWide Tryz.prog W .any base t v := hval0
  have hW' := hW
  obtain ⟨p, q, hA0, hV, rfl, hfz, hnd⟩ := hW
  have hA : DataW.TrodAll enc Tryz.prog W 0 (fun _ => true) true Tryz.f3.params.toList args.toList ds p := hA0
  rw [Tryz.params3] at hA hval
  obtain ⟨v0, vs0, d0, ds0, p0, q0, hargs, rfl, rfl, h0, r0⟩ := trodAll_cons hA
  obtain ⟨v1, vs1, d1, ds1, p1, q1, rfl, rfl, rfl, h1, r1⟩ := trodAll_cons r0
  obtain ⟨v2, vs2, d2, ds2, p2, q2, rfl, rfl, rfl, h2, r2⟩ := trodAll_cons r1
  obtain ⟨rfl, rfl, rfl⟩ := trodAll_nil r2
  obtain rfl : args = #[v0, v1, v2] := by cases args; simp_all
  obtain ⟨rfl, rfl⟩ := trodVars_none hV
  obtain ⟨a0, rfl, rfl, rfl, w0⟩ := open_int Tryz.underlying3 (hval 0 3 v0 rfl rfl) h0
  obtain ⟨a1, rfl, rfl, rfl, w1⟩ := open_string Tryz.underlying9 (hval 1 9 v1 rfl rfl) h1
  obtain ⟨a2, rfl, rfl, rfl, w2⟩ := open_string Tryz.underlying9 (hval 2 9 v2 rfl rfl) h2
  clear hA0 hval0
  simp only [List.append_nil] at hW'
  refine (walk a0 a1 a2 w0 w1 w2 W hT).mono fun e W' ⟨he, hg⟩ => ?_
  subst he
  exact ⟨_, rfl, post_below (pa := []) (pv := []) hW' (trodAll_cons_mk (shut_bool Tryz.underlying4 _) trodAll_mk0) (trodAll_cons_mk (shut_int Tryz.underlying3 w0) (trodAll_cons_mk (shut_string Tryz.underlying9 w1) (trodAll_cons_mk (shut_string Tryz.underlying9 w2) trodAll_mk0))) rfl hg⟩

theorem over : Rows.charsetCutsRow.holds Tryz.pinned (OpenSpec.ofChange Rows.charsetCutsSpec) :=
  OpenClaim.holds_of_wide 3 Tryz.f3 rfl rfl rfl rfl rfl rfl rfl ⟨rfl, rfl, rfl, rfl, rfl⟩ rfl rfl rfl rfl rfl k_named Tryz.func3 k_joined (of_decide_eq_true (by kernel_rfl)) k_wrap
    (fun os started H enc _ => lifted os started H enc)

/-- THE STATEMENT: the tied card -/
theorem proved : Rows.CharsetCutsCardSaid :=
  Claim7.holds_tied_plain_at .later [] [.data, .data, .pinned] true Rows.charsetCutsCard.stood.harness Rows.charsetCutsCard.stood.looks over (fun _ h => by cases h) k_wf (fun _ h => by cases h) charsetCuts_row_tie rfl ⟨rfl, rfl⟩ k_main rfl
    (fun f fn hf hfn => by
      obtain rfl : f = 3 := Option.some.inj (k_named.symm.trans hf) |>.symm
      obtain rfl : fn = Tryz.f3 := (Option.some.inj (Tryz.func3.symm.trans hfn)).symm
      exact ⟨k_looks, fun j t ht => by
        rw [Tryz.params3] at ht
        have hm : t ∈ [3, 9, 9] := by simpa using Array.mem_of_getElem? ht
        exact (show Tryz.prog.wantsStandIn t = false by simpa using List.all_eq_true.1 k_stand t hm)⟩)
    k_goes
#print axioms proved
end Go.Proofs.YtbijjomknbnmfaaGreatDoor.charsetCuts
