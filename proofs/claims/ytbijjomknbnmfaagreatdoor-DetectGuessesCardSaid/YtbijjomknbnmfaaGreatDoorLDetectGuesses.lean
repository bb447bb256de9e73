/- DetectGuesses holds: the likeliest of any charsets, of several the first, or that none is likely, are the document's; so it is by the order. No condition. -/
import Derived.Test.YtbijjomknbnmfaaGreatDoorFr
import Derived.Test.YtbijjomknbnmfaaGreatDoorTie
import Derived.Test.YtbijjomknbnmfaaGreatDoorCards
import Derived.Test.YtbijjomknbnmfaaGreatDoorKz
import Derived.Test.YtbijjomknbnmfaaGreatDoorKDetectGuesses
import Derived.Test.YtbijjomknbnmfaaGreatDoorA10
import Derived.Test.YtbijjomknbnmfaaGreatDoorSl
namespace Go.Proofs.YtbijjomknbnmfaaGreatDoor.detectGuesses
open Go.ChangeShapes Go.WideShapes Go.ChangeAt Go.RowKit Go.ChangeMaps
set_option linter.unusedVariables false
set_option linter.unusedSimpArgs false

/-- what Guess answers for a guess of the reference's. -/
def gV (k : Int) : Value := .tuple #[.int .i64 (if 0 ≤ k then k else 0), .bool (decide (0 ≤ k))]
theorem guess_gV (b : ByteArray) (v : Value) (l : List Int) (w : World) (hT : TW w) (hb : b.size ≤ 1048576) (hrow : Row w v l.length (ccells l)) (hl : l.length ≤ 1073741824) :
    Calls Tryz.prog 29 #[.string b, v] w fun e w' => e = .returned (gV (guess10M (fun c => scoreR c (bl b)) l)) ∧ Below w.heap.size w w' := by
  have h := guess_any b v l w hT hb hrow hl
  have hg := (guess_eq (bl b) l).1
  unfold GuPost at h
  rw [hg] at h
  exact h
theorem gV_neg : gV (-1) = .tuple #[.int .i64 0, .bool false] := rfl
theorem gV_pos (k : Int) (h : 0 ≤ k) : gV k = .tuple #[.int .i64 k, .bool true] := by unfold gV; rw [if_pos h, decide_eq_true h]
set_option maxRecDepth 100000 in
set_option maxHeartbeats 8000000 in
theorem walk (b : ByteArray) (v : Value) (L : List Int) (w0 : b.size ≤ maxLen) (w1 : ∀ n ∈ L, (Lit.int .i64 n).wf = true) (m1 : L.length ≤ maxLen) (w : World) (hrow : Row w v L.length (ccells L)) (hT : TW w) :
    Calls Tryz.prog 7 #[.string b, v] w fun e w' => e = .returned (.bool true) ∧ Below w.heap.size w w' := by
  have KA := Lib.hid awake10in_any
  obtain ⟨n, hn⟩ : ∃ n, n = L.length := ⟨_, rfl⟩
  have hrow0 := hrow
  rw [← hn] at hrow0
  obtain ⟨a, cap, rfl, hc⟩ := hrow0
  by_cases h1 : 100 < b.size
  · skip
    have HC := Lib.hid hc
    have HROW := Lib.hid hrow
    have HN := Lib.hid hn
    clear hc hrow hn
    clear w1 m1 w0
    go_enter Tryz.func7, Tryz.ntmps7
    go_wp2_with (go_at_call 26; refine (KA.out _ hT).mono ?_; rintro e w1 ⟨rfl, hb1⟩)
    go_ret
    exact ⟨rfl, hb1⟩
  by_cases h2 : 20 < n
  · skip
    have HC := Lib.hid hc
    have HROW := Lib.hid hrow
    have HN := Lib.hid hn
    clear hc hrow hn
    clear w1 m1 w0
    go_enter Tryz.func7, Tryz.ntmps7
    go_wp2_with (go_at_call 26; refine (KA.out _ hT).mono ?_; rintro e w1 ⟨rfl, hb1⟩)
    go_ret
    exact ⟨rfl, hb1⟩
  have hn20 : n ≤ 20 := by omega
  obtain ⟨G, hG⟩ : ∃ G, G = guess10M (fun c => scoreR c (bl b)) L := ⟨_, rfl⟩
  obtain ⟨M, hM⟩ : ∃ M, M = guess10M (fun c => scoreR c (bl b)) orderL := ⟨_, rfl⟩
  have g1 : -1 ≤ G ∧ G ≤ 6 := by rw [hG]; exact (guess_eq (bl b) L).2
  have g2 : -1 ≤ M ∧ M ≤ 6 := by rw [hM]; exact (guess_eq (bl b) orderL).2
  have K1 : Hid (∀ v w, TW w → Row w v n (ccells L) → Calls Tryz.prog 29 #[.string b, v] w fun e w' => e = .returned (gV G) ∧ Below w.heap.size w w') :=
    Lib.hid fun v w hT hr => by rw [hG]; exact guess_gV b v L w hT (by omega) (by rw [← hn]; exact hr) (by omega)
  have K2 : Hid (∀ v w, Row w v n (ccells L) → Calls Tryz.prog 30 #[.string b, v] w fun e w' => e = .returned (.int .i64 G) ∧ Below w.heap.size w w') :=
    Lib.hid fun v w hr => by rw [hG]; exact guess10_any b v L w (by omega) (by rw [← hn]; exact hr) (by omega)
  have K3 : Hid (∀ v w, TW w → Row w v 7 (ccells orderL) → Calls Tryz.prog 29 #[.string b, v] w fun e w' => e = .returned (gV M) ∧ Below w.heap.size w w') :=
    Lib.hid fun v w hT hr => by rw [hM]; exact guess_gV b v orderL w hT (by omega) hr (by decide)
  have K4 : Hid (∀ v w, Row w v 7 (ccells orderL) → Calls Tryz.prog 30 #[.string b, v] w fun e w' => e = .returned (.int .i64 M) ∧ Below w.heap.size w w') :=
    Lib.hid fun v w hr => by rw [hM]; exact guess10_any b v orderL w (by omega) hr (by decide)
  have K5 := Lib.hid order_any
  have K6 := Lib.hid order10_any
  have hrow2 : Row w (.slice a n cap) n (ccells L) := ⟨a, cap, rfl, hc⟩
  have HC := Lib.hid hc
  have HN := Lib.hid hn
  have HROW := Lib.hid hrow2
  have HT := Lib.hid hT
  clear hc hn hrow2 hT
  clear w1 m1 w0 hrow hG hM h2
  go_enter Tryz.func7, Tryz.ntmps7
  go_wp2
  go_loopw [5, 28] (fun av iv wr => ∃ (i : Nat) (acc : List Int), iv = .int .i64 (i : Int) ∧ OwnC wr w.heap.size av acc ∧ i ≤ n ∧ acc.length = i ∧ Hid (acc = L.take i) ∧ Below w.heap.size w wr) (fun _ iv _ => n - (intOf iv).toNat)
  case atStart => exact ⟨0, [], rfl, World.ownsRow_nil _ _ _ _, Nat.zero_le _, rfl, Lib.hid rfl, Below.refl _ _⟩
  case round =>
    obtain ⟨i, acc, rfl, hown, hi, hacc, hQ, hbel⟩ := hrel
    by_cases hlt : i < n
    · obtain ⟨c, hcc⟩ := at_some L i (by rw [← HN.out]; exact hlt)
      obtain ⟨g, o, rfl, hcell⟩ := HC.out i (.int .i64 c) (by simp [ccells, hcc])
      have hcell := kc hbel hcell
      have hq : acc ++ [c] = L.take (i + 1) := by rw [hQ.out, List.take_add_one, hcc]; rfl
      have HQ := Lib.hid hq
      clear hq hcc hQ
      go_wp2_with (at_builtin; go_loud (refine wpList_push1 rfl _ _ 40 28 rfl Tryz.underlying40 (.int .i64 0) 1 8 infoCs rfl (by decide) wr w.heap.size u5 acc.length (ccells acc) rfl hown #[.int .i64 c] rfl (by simp [Value.oneCell']) rfl (by omega) (by omega) hbel.size ?_; intro v' w4 hown4 hb4 hk4))
      go_roundw
      case rel => exact ⟨i + 1, acc ++ [c], by go_num, OwnC.add hown4, by omega, by rw [List.length_append]; simp; omega, HQ, hbel.trans hb4⟩
      case measure => simp [intOf]; omega
    · have hin : i = n := by omega
      have hr1 : Row wr u5 n (ccells L) := by
        have h := hown.row
        have e : acc = L := by rw [hQ.out, List.take_of_length_le (by rw [← HN.out]; omega)]
        rw [e, ← HN.out] at h
        exact h
      obtain ⟨a', cap', rfl, hc'⟩ := hr1
      have HR1 : Hid (Row wr (.slice a' n cap') n (ccells L)) := Lib.hid ⟨a', cap', rfl, hc'⟩
      clear hc' hQ hown hacc hlt
      subst hin
      have HTr := Lib.hid (HT.out.bel hbel)
      have HROr := Lib.hid (HROW.out.keep hbel)
      have k1 := K1.out
      have k3 := K3.out
      clear K1 K3
      rcases (show G = -1 ∨ 0 ≤ G from by omega) with rfl | hG1 <;> rcases (show M = -1 ∨ 0 ≤ M from by omega) with rfl | hM1
      all_goals
        first | simp only [gV_neg] at k1 | simp only [gV_pos G hG1] at k1
        first | simp only [gV_neg] at k3 | simp only [gV_pos M hM1] at k3
        have K1 := Lib.hid k1
        have K3 := Lib.hid k3
        clear k1 k3
        go_wp2_with (first
          | (go_at_call 29; refine (K1.out _ _ HTr.out HR1.out).mono ?_; rintro e w1 ⟨rfl, hb1⟩)
          | (go_at_call 30; refine (K2.out _ _ (HROr.out.keep hb1)).mono ?_; rintro e w2 ⟨rfl, hb2⟩)
          | (go_at_call 31; refine (K5.out _).mono ?_; rintro e w3 ⟨v3, rfl, hr3, hb3⟩; obtain ⟨a3, cap3, rfl, hc3⟩ := hr3)
          | (go_at_call 32; refine (K6.out _).mono ?_; rintro e w4 ⟨v4, rfl, hr4, hb4⟩; obtain ⟨a4, cap4, rfl, hc4⟩ := hr4))
        have hB4 : Below w.heap.size w w4 := bt (bt (bt (bt hbel hb1) hb2) hb3) hb4
        have HR3 : Hid (Row w4 (.slice a3 7 cap3) 7 (ccells orderL)) := Lib.hid (Row.keep ⟨a3, cap3, rfl, hc3⟩ hb4)
        have HC3 : Hid (∀ j x, (ccells orderL)[j]? = some x → ∃ g o, a3 = some ⟨g, o, none⟩ ∧ w4.cell? ⟨g, o + j, none⟩ = some x) := Lib.hid (fun j x h => by
          obtain ⟨g, o, e, hx⟩ := hc3 j x h
          exact ⟨g, o, e, kc hb4 hx⟩)
        have HC4 := Lib.hid hc4
        have HB4 := Lib.hid hB4
        clear hc3 hc4 hb1 hb2 hb3 hb4 hbel hB4 HR1 HROr HTr
        go_loopw [69] (fun iv wr => ∃ j : Nat, iv = .int .i64 (j : Int) ∧ j ≤ 7 ∧ Below w4.heap.size w4 wr) (fun iv _ => 7 - (intOf iv).toNat)
        case atStart => exact ⟨0, rfl, by omega, Below.refl _ _⟩
        case round =>
          obtain ⟨j, rfl, hj, hbj⟩ := hrel
          by_cases hlt : j < 7
          · obtain ⟨c, hcc⟩ := at_some orderL j hlt
            have hcv : (ccells orderL)[j]? = some (.int .i64 c) := by unfold ccells; rw [List.getElem?_map, hcc]; rfl
            obtain ⟨g3, o3, rfl, cell3⟩ := HC3.out j _ hcv
            obtain ⟨g4, o4, rfl, cell4⟩ := HC4.out j _ hcv
            have cell3 := kc hbj cell3
            have cell4 := kc hbj cell4
            clear hcc hcv
            go_wp2
            go_roundw
            case rel => exact ⟨j + 1, by go_num, by omega, hbj⟩
            case measure => simp [intOf]; omega
          · have hj7 : j = 7 := by omega
            subst hj7
            have hBr := HB4.out.trans (hbj.mono HB4.out.size)
            have HTj := Lib.hid (HT.out.bel hBr)
            have HRj := Lib.hid (HR3.out.keep hbj)
            clear hlt
            go_wp2_with (first
              | (go_at_call 29; refine (K3.out _ _ HTj.out HRj.out).mono ?_; rintro e w5 ⟨rfl, hb5⟩)
              | (go_at_call 32; refine (K6.out _).mono ?_; rintro e w6 ⟨v6, rfl, hr6, hb6⟩)
              | (go_at_call 30; refine (K4.out _ _ hr6).mono ?_; rintro e w7 ⟨rfl, hb7⟩)
              | (go_at_call 26; refine (KA.out _ (HTj.out.bel (bt (bt hb5 hb6) hb7))).mono ?_; rintro e w8 ⟨rfl, hb8⟩))
            go_ret
            exact ⟨rfl, bt (bt (bt (bt hBr hb5) hb6) hb7) hb8⟩

set_option maxRecDepth 100000 in
theorem lifted (os : Os) (started : os.Started) (H : Type) (enc : TypeId × Value → H) :
    ReturnsInHanded {} Tryz.checked os 7 .any (fun w args => (Rows.detectGuessesSpec.pre enc Tryz.prog Tryz.f7 Rows.detectGuessesRow.domain false w args ∧ laidMetH Tryz.prog laid3 w) ∧ sizedMet enc Tryz.prog Tryz.f7 (OpenSpec.ofChange Rows.detectGuessesSpec) false w args) (Rows.detectGuessesSpec.post enc Tryz.prog Tryz.f7 false true false false) := by
  refine handed_laid_shaped (C := Tryz.checked) (X := fun w => laidMetH Tryz.prog laid3 w) (fun _ _ hh h => h.of_heap hh) own started (by kernel_rfl) Tryz.func7
    (ChangeSpec.witness_shaped (enc := enc) (C := Tryz.checked) (os := os) (X := fun w _ => laidMetH Tryz.prog laid3 w) false (World.laidAll Tryz.prog os laid3) #[.string ByteArray.empty, .slice none 0 0] 8 (World.laidAll_os _ _ _) (laid_shaped os _) (by kernel_rfl) (by kernel_rfl) (by kernel_rfl) (laid_met os _)) ?_
  intro W base args ds gs before hval0 hW hL hsh
  have hT := tw_of_laid hL hsh
  have hval : ∀ (j : Nat) t v, Tryz.f7.params[j]? = some t → args[j]? = some v → Value.okWide Tryz.prog W .any base t v := hval0
  have hW' := hW
  obtain ⟨p, q, hA0, hV, rfl, hfz, hnd⟩ := hW
  have hA : DataW.TrodAll enc Tryz.prog W 0 (fun _ => true) true Tryz.f7.params.toList args.toList ds p := hA0
  rw [Tryz.params7] at hA hval
  obtain ⟨v0, vs0, d0, ds0, p0, q0, hargs, rfl, rfl, h0, r0⟩ := trodAll_cons hA
  obtain ⟨v1, vs1, d1, ds1, p1, q1, rfl, rfl, rfl, h1, r1⟩ := trodAll_cons r0
  obtain ⟨rfl, rfl, rfl⟩ := trodAll_nil r1
  obtain rfl : args = #[v0, v1] := by cases args; simp_all
  obtain ⟨rfl, rfl⟩ := trodVars_none hV
  obtain ⟨a0, rfl, rfl, rfl, w0⟩ := open_string Tryz.underlying9 (hval 0 9 v0 rfl rfl) h0
  obtain ⟨a1, w1, m1, R1, S1⟩ := open_row Tryz.underlying39 Tryz.underlying3 (by kernel_rfl) (hval 1 39 v1 rfl rfl) h1
  clear hA0 hval0
  simp only [List.append_nil] at hW'
  refine (walk a0 v1 a1 w0 w1 m1 W R1 hT).mono fun e W' ⟨he, hg⟩ => ?_
  subst he
  obtain ⟨ps1, T1⟩ := S1 W' hg
  exact ⟨_, rfl, post_below (pa := _) (pv := []) hW' (trodAll_cons_mk (shut_bool Tryz.underlying4 _) trodAll_mk0) (trodAll_cons_mk (shut_string Tryz.underlying9 w0) (trodAll_cons_mk T1 trodAll_mk0)) rfl hg⟩

theorem over : Rows.detectGuessesRow.holds Tryz.pinned (OpenSpec.ofChange Rows.detectGuessesSpec) :=
  OpenClaim.holds_of_wide 7 Tryz.f7 rfl rfl rfl rfl rfl rfl rfl ⟨rfl, rfl, rfl, rfl, rfl⟩ rfl rfl rfl rfl rfl k_named Tryz.func7 k_joined (of_decide_eq_true (by kernel_rfl)) k_wrap
    (fun os started H enc _ => lifted os started H enc)

/-- THE STATEMENT: the tied card -/
theorem proved : Rows.DetectGuessesCardSaid :=
  Claim7.holds_tied_plain_at .later [] [.data, .data, .pinned] true Rows.detectGuessesCard.stood.harness Rows.detectGuessesCard.stood.looks over (fun _ h => by cases h) k_wf (fun _ h => by cases h) detectGuesses_row_tie rfl ⟨rfl, rfl⟩ k_main rfl
    (fun f fn hf hfn => by
      obtain rfl : f = 7 := Option.some.inj (k_named.symm.trans hf) |>.symm
      obtain rfl : fn = Tryz.f7 := (Option.some.inj (Tryz.func7.symm.trans hfn)).symm
      exact ⟨k_looks, fun j t ht => by
        rw [Tryz.params7] at ht
        have hm : t ∈ [9, 39] := by simpa using Array.mem_of_getElem? ht
        exact (show Tryz.prog.wantsStandIn t = false by simpa using List.all_eq_true.1 k_stand t hm)⟩)
    k_goes
#print axioms proved
end Go.Proofs.YtbijjomknbnmfaaGreatDoor.detectGuesses
