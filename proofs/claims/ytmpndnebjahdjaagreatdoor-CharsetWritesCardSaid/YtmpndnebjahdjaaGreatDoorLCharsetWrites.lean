/- CharsetWrites holds: the bytes of any text in any charset, or the first sign that has none, are the document's; what is encoded is decoded as it was. No condition. -/
import Derived.Test.YtmpndnebjahdjaaGreatDoorFr
import Derived.Test.YtmpndnebjahdjaaGreatDoorTie
import Derived.Test.YtmpndnebjahdjaaGreatDoorCards
import Derived.Test.YtmpndnebjahdjaaGreatDoorKz
import Derived.Test.YtmpndnebjahdjaaGreatDoorKCharsetWrites
import Derived.Test.YtmpndnebjahdjaaGreatDoorQi
import Derived.Test.YtmpndnebjahdjaaGreatDoorUf
namespace Go.Proofs.YtmpndnebjahdjaaGreatDoor.charsetWrites
open Go.ChangeShapes Go.WideShapes Go.ChangeAt Go.RowKit Go.ChangeMaps
set_option linter.unusedVariables false
set_option linter.unusedSimpArgs false

set_option maxHeartbeats 4000000 in
theorem walk (c : Int) (b : ByteArray) (w0 : (Lit.int .i64 c).wf = true) (w1 : b.size ≤ maxLen) (w : World) (hT : TW w) :
    Calls Tryz.prog 3 #[.int .i64 c, .string b] w fun e w' => e = .returned (.bool true) ∧ Below w.heap.size w w' := by
  have KA := Lib.hid awake09in_any
  have KB := Lib.hid bad_any
  have KF := Lib.hid lawFault_any
  by_cases h1 : 60 < b.size
  · go_enter Tryz.func3, Tryz.ntmps3
    go_wp2_with (go_at_call 11; refine (KA.out _ hT).mono ?_; rintro e w1 ⟨rfl, hb1⟩)
    go_ret
    exact ⟨rfl, hb1⟩
  have k1 := fun w hT => cencode_all c b w hT (by omega)
  have k2 := fun w => enc9_all c b w (by omega)
  unfold EncPost at k1
  unfold En9Post at k2
  rcases enc_forms c (bl b) with ⟨t, hok⟩ | ⟨x, y, hok, hx⟩
  · obtain ⟨h0, h9, hd⟩ := forth_any c (bl b) t 0 hok
    have hl := forth_len c (bl b) t hd
    rw [bl_length] at hl
    obtain ⟨T, hTT⟩ : ∃ T : ByteArray, T = ⟨t.toArray⟩ := ⟨_, rfl⟩
    have htT : t = bl T := by rw [hTT]
    have hTl : T.size ≤ 1048576 := by rw [← bl_length, ← htT]; omega
    rw [htT] at hd
    have e9 : rV (encT c (bl b)) = .tuple #[.string T, .int .i64 0, .int .i64 0] := by
      rw [hok, hTT]; rfl
    have eV : pV (encT c (bl b)) = .tuple #[.string T, .agg #[.int .i64 0, .int .i64 0]] := by
      rw [hok, hTT]; rfl
    have hbb : (⟨(bl b).toArray⟩ : ByteArray) = b := mk_list b
    have eD : decV c (bl T) = .tuple #[.string b, .agg #[.int .i64 0, .int .i64 0]] := by
      rw [decV_in c _ ⟨h0, h9⟩, hd]
      show Value.tuple #[.string ⟨(bl b).toArray⟩, _] = _
      rw [hbb]; rfl
    rw [e9] at k2
    rw [eV] at k1
    have k3 := fun w hT => cdecode_any c T w hT (by omega)
    unfold CDecPost at k3
    rw [eD] at k3
    have kE := neqFault 0 0 0 0
    have kG := fun op x y w => guardFault op x y #[.int .i64 0, .int .i64 0] #[.int .i64 0, .int .i64 0] w
    have K1 := Lib.hid k1
    have K2 := Lib.hid k2
    have K3 := Lib.hid k3
    clear k1 k2 k3
    clear e9 eV hTT hl hd htT hok eD hbb
    go_enter Tryz.func3, Tryz.ntmps3
    go_wp2_with (first
      | (go_at_call 12; refine (K1.out _ hT).mono ?_; rintro e w1 ⟨rfl, hb1⟩; have hc1 := bal hb1 (.cells #[.int .i64 0, .int .i64 0] 25); have l0 := Live.fresh w1 #[.int .i64 0, .int .i64 0] 25 0 _ rfl; have l1 := Live.fresh w1 #[.int .i64 0, .int .i64 0] 25 1 _ rfl; have L0 := Lib.hid l0; have L1 := Lib.hid l1; clear l0 l1)
      | (go_at_call 13; refine (K2.out _).mono ?_; rintro e w2 ⟨rfl, hb2⟩))
    obtain ⟨q0, _⟩ := L0.out.keep hb2
    obtain ⟨q1, _⟩ := L1.out.keep hb2
    have hc2 := bt hc1 hb2
    have g0 := fun x : Grown w2 => x.cell q0
    have g1 := fun x : Grown w2 => x.cell q1
    refine wp_region_grown (by kernel_rfl) (by kernel_rfl) ?_
    repeat (first | go_big_quiet_step ((go_at_call 14; exact Calls.grown_of (KF.out _ _ _))) | quiet_step ((go_at_call 14; exact Calls.grown_of (KF.out _ _ _))))
    refine wpQuiet_nil ?_
    intro _ hw'
    obtain ⟨xg, rfl⟩ := hw'
    have hc3 := bt hc2 xg.bel
    clear g0 g1
    generalize xg.wd = W3 at *
    clear xg
    have HT3 := Lib.hid (hT.bel hc3)
    go_wp2_with (first
      | (go_at_call 15; refine (K3.out _ HT3.out).mono ?_; rintro e w4 ⟨rfl, hb4⟩; have hc4 := bal (bt hc3 hb4) (.cells #[.int .i64 0, .int .i64 0] 25); have l0 := Live.fresh w4 #[.int .i64 0, .int .i64 0] 25 0 _ rfl; have l1 := Live.fresh w4 #[.int .i64 0, .int .i64 0] 25 1 _ rfl; have M0 := Lib.hid l0; have M1 := Lib.hid l1; clear l0 l1)
      | (go_at_call 11; refine (KA.out _ (hT.bel hc4)).mono ?_; rintro e w5 ⟨rfl, hb5⟩; have m0 := (M0.out.keep hb5).1; have m1 := (M1.out.keep hb5).1)
      | (go_at_call 16; refine (KB.out _ _ _).mono ?_; rintro e w6 ⟨rfl, hb6⟩))
    go_ret
    exact ⟨rfl, bt (bt hc4 hb5) hb6⟩
  · have e9 : rV (encT c (bl b)) = .tuple #[.string ⟨#[]⟩, .int .i64 x, .int .i64 y] := by rw [hok]; rfl
    have eV : pV (encT c (bl b)) = .tuple #[.string ⟨#[]⟩, .agg #[.int .i64 x, .int .i64 y]] := by rw [hok]; rfl
    rw [e9] at k2
    rw [eV] at k1
    have hxB : (x != 0) = true := by simpa using hx
    have kE := neqFault x y x y
    have kG := fun op a d w => guardFault op a d #[.int .i64 x, .int .i64 y] #[.int .i64 x, .int .i64 y] w
    have K1 := Lib.hid k1
    have K2 := Lib.hid k2
    clear k1 k2
    clear e9 eV hok
    go_enter Tryz.func3, Tryz.ntmps3
    go_wp2_with (first
      | (go_at_call 12; refine (K1.out _ hT).mono ?_; rintro e w1 ⟨rfl, hb1⟩; have hc1 := bal hb1 (.cells #[.int .i64 x, .int .i64 y] 25); have l0 := Live.fresh w1 #[.int .i64 x, .int .i64 y] 25 0 _ rfl; have l1 := Live.fresh w1 #[.int .i64 x, .int .i64 y] 25 1 _ rfl; have L0 := Lib.hid l0; have L1 := Lib.hid l1; clear l0 l1)
      | (go_at_call 13; refine (K2.out _).mono ?_; rintro e w2 ⟨rfl, hb2⟩))
    obtain ⟨q0, _⟩ := L0.out.keep hb2
    obtain ⟨q1, _⟩ := L1.out.keep hb2
    have hc2 := bt hc1 hb2
    have g0 := fun x : Grown w2 => x.cell q0
    have g1 := fun x : Grown w2 => x.cell q1
    refine wp_region_grown (by kernel_rfl) (by kernel_rfl) ?_
    repeat (first | go_big_quiet_step ((go_at_call 14; exact Calls.grown_of (KF.out _ _ _))) | quiet_step ((go_at_call 14; exact Calls.grown_of (KF.out _ _ _))))
    refine wpQuiet_nil ?_
    intro _ hw'
    obtain ⟨xg, rfl⟩ := hw'
    have hc3 := bt hc2 xg.bel
    clear g0 g1
    generalize xg.wd = W3 at *
    clear xg
    have HT3 := Lib.hid (hT.bel hc3)
    go_wp2_with (go_at_call 11; refine (KA.out _ HT3.out).mono ?_; rintro e w5 ⟨rfl, hb5⟩)
    go_ret
    exact ⟨rfl, bt hc3 hb5⟩

set_option maxRecDepth 100000 in
theorem lifted (os : Os) (started : os.Started) (H : Type) (enc : TypeId × Value → H) :
    ReturnsInHanded {} Tryz.checked os 3 .any (fun w args => (Rows.charsetWritesSpec.pre enc Tryz.prog Tryz.f3 Rows.charsetWritesRow.domain false w args ∧ laidMetH Tryz.prog laid3 w) ∧ sizedMet enc Tryz.prog Tryz.f3 (OpenSpec.ofChange Rows.charsetWritesSpec) false w args) (Rows.charsetWritesSpec.post enc Tryz.prog Tryz.f3 false true false false) := by
  refine handed_laid_shaped (C := Tryz.checked) (X := fun w => laidMetH Tryz.prog laid3 w) (fun _ _ hh h => h.of_heap hh) own started (by kernel_rfl) Tryz.func3
    (ChangeSpec.witness_shaped (enc := enc) (C := Tryz.checked) (os := os) (X := fun w _ => laidMetH Tryz.prog laid3 w) false (World.laidAll Tryz.prog os laid3) #[.int .i64 0, .string ByteArray.empty] 8 (World.laidAll_os _ _ _) (laid_shaped os _) (by kernel_rfl) (by kernel_rfl) (by kernel_rfl) (laid_met os _)) ?_
  intro W base args ds gs before hval0 hW hL hsh
  have hT := tw_of_laid hL hsh
  have hval : ∀ (j : Nat) t v, Tryz.f3.params[j]? = some t → args[j]? = some v → Value.okWide Tryz.prog W .any base t v := hval0
  have hW' := hW
  obtain ⟨p, q, hA0, hV, rfl, hfz, hnd⟩ := hW
  have hA : DataW.TrodAll enc Tryz.prog W 0 (fun _ => true) true Tryz.f3.params.toList args.toList ds p := hA0
  rw [Tryz.params3] at hA hval
  obtain ⟨v0, vs0, d0, ds0, p0, q0, hargs, rfl, rfl, h0, r0⟩ := trodAll_cons hA
  obtain ⟨v1, vs1, d1, ds1, p1, q1, rfl, rfl, rfl, h1, r1⟩ := trodAll_cons r0
  obtain ⟨rfl, rfl, rfl⟩ := trodAll_nil r1
  obtain rfl : args = #[v0, v1] := by cases args; simp_all
  obtain ⟨rfl, rfl⟩ := trodVars_none hV
  obtain ⟨a0, rfl, rfl, rfl, w0⟩ := open_int Tryz.underlying3 (hval 0 3 v0 rfl rfl) h0
  obtain ⟨a1, rfl, rfl, rfl, w1⟩ := open_string Tryz.underlying9 (hval 1 9 v1 rfl rfl) h1
  clear hA0 hval0
  simp only [List.append_nil] at hW'
  refine (walk a0 a1 w0 w1 W hT).mono fun e W' ⟨he, hg⟩ => ?_
  subst he
  exact ⟨_, rfl, post_below (pa := []) (pv := []) hW' (trodAll_cons_mk (shut_bool Tryz.underlying4 _) trodAll_mk0) (trodAll_cons_mk (shut_int Tryz.underlying3 w0) (trodAll_cons_mk (shut_string Tryz.underlying9 w1) trodAll_mk0)) rfl hg⟩

theorem over : Rows.charsetWritesRow.holds Tryz.pinned (OpenSpec.ofChange Rows.charsetWritesSpec) :=
  OpenClaim.holds_of_wide 3 Tryz.f3 rfl rfl rfl rfl rfl rfl rfl ⟨rfl, rfl, rfl, rfl, rfl⟩ rfl rfl rfl rfl rfl k_named Tryz.func3 k_joined (of_decide_eq_true (by kernel_rfl)) k_wrap
    (fun os started H enc _ => lifted os started H enc)

/-- THE STATEMENT: the tied card -/
theorem proved : Rows.CharsetWritesCardSaid :=
  Claim7.holds_tied_plain_at .later [] [.data, .data, .pinned] true Rows.charsetWritesCard.stood.harness Rows.charsetWritesCard.stood.looks over (fun _ h => by cases h) k_wf (fun _ h => by cases h) charsetWrites_row_tie rfl ⟨rfl, rfl⟩ k_main rfl
    (fun f fn hf hfn => by
      obtain rfl : f = 3 := Option.some.inj (k_named.symm.trans hf) |>.symm
      obtain rfl : fn = Tryz.f3 := (Option.some.inj (Tryz.func3.symm.trans hfn)).symm
      exact ⟨k_looks, fun j t ht => by
        rw [Tryz.params3] at ht
        have hm : t ∈ [3, 9] := by simpa using Array.mem_of_getElem? ht
        exact (show Tryz.prog.wantsStandIn t = false by simpa using List.all_eq_true.1 k_stand t hm)⟩)
    k_goes
#print axioms proved
end Go.Proofs.YtmpndnebjahdjaaGreatDoor.charsetWrites
