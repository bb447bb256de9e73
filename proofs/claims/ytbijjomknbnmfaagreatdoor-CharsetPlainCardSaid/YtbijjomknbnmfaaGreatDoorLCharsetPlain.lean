/- CharsetPlain holds: a text whose bytes are all below 128 is itself in each charset but the two of units. No condition. -/
import Derived.Test.YtbijjomknbnmfaaGreatDoorFr
import Derived.Test.YtbijjomknbnmfaaGreatDoorTie
import Derived.Test.YtbijjomknbnmfaaGreatDoorCards
import Derived.Test.YtbijjomknbnmfaaGreatDoorKz
import Derived.Test.YtbijjomknbnmfaaGreatDoorKCharsetPlain
import Derived.Test.YtbijjomknbnmfaaGreatDoorPl
namespace Go.Proofs.YtbijjomknbnmfaaGreatDoor.charsetPlain
open Go.ChangeShapes Go.WideShapes Go.ChangeAt Go.RowKit Go.ChangeMaps
set_option linter.unusedVariables false
set_option linter.unusedSimpArgs false

set_option maxHeartbeats 4000000 in
theorem walk_out (c : Int) (b : ByteArray) (h : 300 < b.size ∨ c < 0 ∨ 7 < c) (w : World) (hT : TW w) :
    Calls Tryz.prog 12 #[.int .i64 c, .string b] w fun e w' => e = .returned (.bool true) ∧ Below w.heap.size w w' := by
  have KA := Lib.hid awake09in_any
  by_cases h1 : 300 < b.size
  · clear h
    go_enter Tryz.func12, Tryz.ntmps12
    go_wp2_with (go_at_call 15; refine (KA.out _ hT).mono ?_; rintro e w1 ⟨rfl, hb1⟩)
    go_ret
    exact ⟨rfl, hb1⟩
  · by_cases h2 : c < 0
    · clear h
      go_enter Tryz.func12, Tryz.ntmps12
      go_wp2_with (go_at_call 15; refine (KA.out _ hT).mono ?_; rintro e w1 ⟨rfl, hb1⟩)
      go_ret
      exact ⟨rfl, hb1⟩
    · have h3 : 7 < c := by omega
      clear h
      go_enter Tryz.func12, Tryz.ntmps12
      go_wp2_with (go_at_call 15; refine (KA.out _ hT).mono ?_; rintro e w1 ⟨rfl, hb1⟩)
      go_ret
      exact ⟨rfl, hb1⟩
set_option maxRecDepth 100000 in
set_option maxHeartbeats 4000000 in
theorem walk_in (c : Int) (b : ByteArray) (h1 : b.size ≤ 300) (h2 : 0 ≤ c) (h3 : c ≤ 7) (w : World) (hT : TW w) :
    Calls Tryz.prog 12 #[.int .i64 c, .string b] w fun e w' => e = .returned (.bool true) ∧ Below w.heap.size w w' := by
  have KA := Lib.hid awake09in_any
  have KB : Hid (∀ w, Calls Tryz.prog 17 #[.agg #[.int .i64 0, .int .i64 0]] w fun e w' => e = .returned (.bool false) ∧ Below w.heap.size w w') := fun w => bad_any 0 0 w
  have HBL : Hid ((bl b).length = b.size) := bl_length b
  have HW : Hid (TW w) := hT
  have K1 := Lib.hid (fun w hT hp => cdecode_plain c b w hT (by omega) h2 h3 hp)
  have K2 := Lib.hid (fun w hT hp => cencode_plain c b w hT (by omega) h2 h3 hp)
  go_enter Tryz.func12, Tryz.ntmps12
  go_wp2
  go_loop [24] (fun iv => ∃ i : Nat, iv = .int .i64 (i : Int) ∧ i ≤ b.size ∧ Hid (Plain ((bl b).take i))) (fun iv => b.size - (intOf iv).toNat)
  case atStart => exact ⟨0, rfl, Nat.zero_le _, Lib.hid (by intro x hx; simp at hx)⟩
  case round =>
    obtain ⟨i, rfl, hi, hP⟩ := hrel
    by_cases hlt : i < b.size
    · obtain ⟨x, hx⟩ := at_some (bl b) i (by rw [HBL.out]; exact hlt)
      have X : ∀ h, b[i]'h = x := atB_of b i x hx
      have hxl := x.toNat_lt
      by_cases hx8 : x.toNat < 128
      · have hP2 : Plain ((bl b).take (i + 1)) := by
          intro y hy
          rw [List.take_add_one, hx] at hy
          rcases List.mem_append.1 hy with h | h
          · exact hP.out y h
          · simp at h; rw [h]; exact hx8
        have HP2 := Lib.hid hP2
        clear hP2
        clear hx
        go_wp2
        exact ⟨⟨i + 1, by first | omega | go_num, by omega, HP2⟩, by simp [intOf]; omega⟩
      · clear hx
        go_wp2_with (go_at_call 15; refine (KA.out _ HW.out).mono ?_; rintro e w1 ⟨rfl, hb1⟩)
        go_ret
        exact ⟨rfl, hb1⟩
    · have hib : i = b.size := by omega
      subst hib
      have hp := hP.out
      rw [List.take_of_length_le (by rw [HBL.out]; exact Nat.le_refl _)] at hp
      have HP := Lib.hid hp
      clear hp
      clear hP
      go_wp2_with fail
      refine (K1.out _ HW.out HP.out).mono ?_
      rintro e w1 ⟨rfl, hb1⟩
      have hc1 := bal hb1 (.cells #[.int .i64 0, .int .i64 0] 25)
      have g0 := Live.fresh w1 #[.int .i64 0, .int .i64 0] 25 0 _ rfl
      have g1 := Live.fresh w1 #[.int .i64 0, .int .i64 0] 25 1 _ rfl
      have G0 := Lib.hid g0
      have G1 := Lib.hid g1
      clear g0 g1
      go_wp2_with fail
      refine (K2.out _ (HW.out.bel hc1) HP.out).mono ?_
      rintro e w2 ⟨rfl, hb2⟩
      have hq2 := bal (Below.refl w2.heap.size w2) (.cells #[.int .i64 0, .int .i64 0] 25)
      have hc2 := bt (bt hc1 hb2) hq2
      obtain ⟨g0, _⟩ := (G0.out.keep hb2).keep hq2
      obtain ⟨g1, _⟩ := (G1.out.keep hb2).keep hq2
      obtain ⟨f0, _⟩ := Live.fresh w2 #[.int .i64 0, .int .i64 0] 25 0 _ rfl
      obtain ⟨f1, _⟩ := Live.fresh w2 #[.int .i64 0, .int .i64 0] 25 1 _ rfl
      clear hb1 hb2 hq2 hc1
      go_wp2_with (first
        | (go_at_call 17; refine (KB.out _).mono ?_; rintro e w5 ⟨rfl, hb5⟩; have hc2 := bt hc2 hb5; have g0 := kc hb5 g0; have g1 := kc hb5 g1; have f0 := kc hb5 f0; have f1 := kc hb5 f1)
        | (go_at_call 15; refine (KA.out _ (HW.out.bel hc2)).mono ?_; rintro e w5 ⟨rfl, hb5⟩; have hc2 := bt hc2 hb5; have g0 := kc hb5 g0; have g1 := kc hb5 g1; have f0 := kc hb5 f0; have f1 := kc hb5 f1))
      go_ret
      exact ⟨rfl, hc2⟩
theorem walk (a0 : Int) (a1 : ByteArray) (w0 : (Lit.int .i64 a0).wf = true) (w1 : a1.size ≤ maxLen) (w : World) (hT : TW w) :
    Calls Tryz.prog 12 #[.int .i64 a0, .string a1] w fun e w' => e = .returned (.bool true) ∧ Below w.heap.size w w' := by
  by_cases h : a1.size ≤ 300 ∧ 0 ≤ a0 ∧ a0 ≤ 7
  · exact walk_in a0 a1 h.1 h.2.1 h.2.2 w hT
  · exact walk_out a0 a1 (by omega) w hT

set_option maxRecDepth 100000 in
theorem lifted (os : Os) (started : os.Started) (H : Type) (enc : TypeId × Value → H) :
    ReturnsInHanded {} Tryz.checked os 12 .any (fun w args => (Rows.charsetPlainSpec.pre enc Tryz.prog Tryz.f12 Rows.charsetPlainRow.domain false w args ∧ laidMetH Tryz.prog laid3 w) ∧ sizedMet enc Tryz.prog Tryz.f12 (OpenSpec.ofChange Rows.charsetPlainSpec) false w args) (Rows.charsetPlainSpec.post enc Tryz.prog Tryz.f12 false true false false) := by
  refine handed_laid_shaped (C := Tryz.checked) (X := fun w => laidMetH Tryz.prog laid3 w) (fun _ _ hh h => h.of_heap hh) own started (by kernel_rfl) Tryz.func12
    (ChangeSpec.witness_shaped (enc := enc) (C := Tryz.checked) (os := os) (X := fun w _ => laidMetH Tryz.prog laid3 w) false (World.laidAll Tryz.prog os laid3) #[.int .i64 0, .string ByteArray.empty] 8 (World.laidAll_os _ _ _) (laid_shaped os _) (by kernel_rfl) (by kernel_rfl) (by kernel_rfl) (laid_met os _)) ?_
  intro W base args ds gs before hval0 hW hL hsh
  have hT := tw_of_laid hL hsh
  have hval : ∀ (j : Nat) t v, Tryz.f12.params[j]? = some t → args[j]? = some v → Value.okWide Tryz.prog W .any base t v := hval0
  have hW' := hW
  obtain ⟨p, q, hA0, hV, rfl, hfz, hnd⟩ := hW
  have hA : DataW.TrodAll enc Tryz.prog W 0 (fun _ => true) true Tryz.f12.params.toList args.toList ds p := hA0
  rw [Tryz.params12] at hA hval
  obtain ⟨v0, vs0, d0, ds0, p0, q0, hargs, rfl, rfl, h0, r0⟩ := trodAll_cons hA
  obtain ⟨v1, vs1, d1, ds1, p1, q1, rfl, rfl, rfl, h1, r1⟩ := trodAll_cons r0
  obtain ⟨rfl, rfl, rfl⟩ := trodAll_nil r1
  obtain rfl : args = #[v0, v1] := by cases args; simp_all
  obtain ⟨rfl, rfl⟩ := trodVars_none hV
  obtain ⟨a0, rfl, rfl, rfl, w0⟩ := open_int Tryz.underlying3 (hval 0 3 v0 rfl rfl) h0
  obtain ⟨a1, rfl, rfl, rfl, w1⟩ := open_string Tryz.underlying9 (hval 1 9 v1 rfl rfl) h1
  clear hA0 hval0
  simp only [List.append_nil] at hW'
  refine (walk a0 a1 w0 w1 W hT).mono fun e W' ⟨he, hg⟩ => ?_
  subst he
  exact ⟨_, rfl, post_below (pa := []) (pv := []) hW' (trodAll_cons_mk (shut_bool Tryz.underlying4 _) trodAll_mk0) (trodAll_cons_mk (shut_int Tryz.underlying3 w0) (trodAll_cons_mk (shut_string Tryz.underlying9 w1) trodAll_mk0)) rfl hg⟩

theorem over : Rows.charsetPlainRow.holds Tryz.pinned (OpenSpec.ofChange Rows.charsetPlainSpec) :=
  OpenClaim.holds_of_wide 12 Tryz.f12 rfl rfl rfl rfl rfl rfl rfl ⟨rfl, rfl, rfl, rfl, rfl⟩ rfl rfl rfl rfl rfl k_named Tryz.func12 k_joined (of_decide_eq_true (by kernel_rfl)) k_wrap
    (fun os started H enc _ => lifted os started H enc)

/-- THE STATEMENT: the tied card -/
theorem proved : Rows.CharsetPlainCardSaid :=
  Claim7.holds_tied_plain_at .later [] [.data, .data, .pinned] true Rows.charsetPlainCard.stood.harness Rows.charsetPlainCard.stood.looks over (fun _ h => by cases h) k_wf (fun _ h => by cases h) charsetPlain_row_tie rfl ⟨rfl, rfl⟩ k_main rfl
    (fun f fn hf hfn => by
      obtain rfl : f = 12 := Option.some.inj (k_named.symm.trans hf) |>.symm
      obtain rfl : fn = Tryz.f12 := (Option.some.inj (Tryz.func12.symm.trans hfn)).symm
      exact ⟨k_looks, fun j t ht => by
        rw [Tryz.params12] at ht
        have hm : t ∈ [3, 9] := by simpa using Array.mem_of_getElem? ht
        exact (show Tryz.prog.wantsStandIn t = false by simpa using List.all_eq_true.1 k_stand t hm)⟩)
    k_goes
#print axioms proved
end Go.Proofs.YtbijjomknbnmfaaGreatDoor.charsetPlain
