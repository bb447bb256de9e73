/- CharsetTries holds: those of any charsets in which bytes are a text are the document's, in their order. No condition. -/
import Derived.Test.YtbijjomknbnmfaaGreatDoorFr
import Derived.Test.YtbijjomknbnmfaaGreatDoorTie
import Derived.Test.YtbijjomknbnmfaaGreatDoorCards
import Derived.Test.YtbijjomknbnmfaaGreatDoorKz
import Derived.Test.YtbijjomknbnmfaaGreatDoorKCharsetTries
import Derived.Test.YtbijjomknbnmfaaGreatDoorSl
import Derived.Test.YtbijjomknbnmfaaGreatDoorRx
namespace Go.Proofs.YtbijjomknbnmfaaGreatDoor.charsetTries
open Go.ChangeShapes Go.WideShapes Go.ChangeAt Go.RowKit Go.ChangeMaps
set_option linter.unusedVariables false
set_option linter.unusedSimpArgs false

theorem orow_eq {w w' : World} {B : Nat} {e : TypeId} {s n : Nat} {v : Value} {cs : List Value} (h : w.ownsRow B e s v n cs) (hk : ∀ k, v.ownBlock = some k → w'.heap[k]? = w.heap[k]?) : w'.ownsRow B e s v n cs := by
  obtain ⟨hl, h⟩ := h
  refine ⟨hl, ?_⟩
  rcases h with h | ⟨g, cap, cur, hv, hB, hg, h1, h2, h3, h4⟩
  · exact .inl h
  · exact .inr ⟨g, cap, cur, hv, hB, by rw [hk g (by rw [hv]; rfl)]; exact hg, h1, h2, h3, h4⟩
/-- two rows lie in blocks of their own. -/
def Apart (a b : Value) : Prop := ∀ k, a.ownBlock = some k → b.ownBlock ≠ some k
theorem Apart.symm {a b : Value} (h : Apart a b) : Apart b a := fun k hb ha => h k ha hb
/-- behind an append to the first, the second is as it was, and they lie apart. -/
theorem push_other {W w' : World} {B Bb : Nat} {e : TypeId} {s n : Nat} {va vb v' : Value} {cs : List Value} (hap : Apart va vb) (hb : W.ownsRow Bb e s vb n cs)
    (hk : ∀ k, k < W.heap.size → some k ≠ va.ownBlock → w'.heap[k]? = W.heap[k]?) (hl : v'.ownBlock = va.ownBlock ∨ v'.ownBlock = some (W.heap.size + 1)) :
    w'.ownsRow Bb e s vb n cs ∧ Apart v' vb := by
  have hblk := orow_blk hb
  refine ⟨orow_eq hb fun k hv => hk k (hblk k hv).2 fun h => hap k h.symm hv, ?_⟩
  intro k h1 h2
  rcases hl with h | h
  · exact hap k (h ▸ h1) h2
  · rw [h] at h1
    have := Option.some.inj h1
    have := (hblk k h2).2
    omega
set_option maxRecDepth 100000 in
set_option maxHeartbeats 8000000 in
theorem walk (b : ByteArray) (v : Value) (L : List Int) (w0 : b.size ≤ maxLen) (w1 : ∀ n ∈ L, (Lit.int .i64 n).wf = true) (m1 : L.length ≤ maxLen) (w : World) (hrow : Row w v L.length (ccells L)) (hT : TW w) :
    Calls Tryz.prog 5 #[.string b, v] w fun e w' => e = .returned (.bool true) ∧ Below w.heap.size w w' := by
  have KA := Lib.hid awake09in_any
  obtain ⟨n, hn⟩ : ∃ n, n = L.length := ⟨_, rfl⟩
  rw [← hn] at hrow
  obtain ⟨a, cap, rfl, hc⟩ := hrow
  by_cases h1 : 100 < b.size
  · skip
    have HC := Lib.hid hc
    have HN := Lib.hid hn
    clear hc hn
    clear w1 m1 w0
    go_enter Tryz.func5, Tryz.ntmps5
    go_wp2_with (go_at_call 15; refine (KA.out _ hT).mono ?_; rintro e w1 ⟨rfl, hb1⟩)
    go_ret
    exact ⟨rfl, hb1⟩
  by_cases h2 : 30 < n
  · skip
    have HC := Lib.hid hc
    have HN := Lib.hid hn
    clear hc hn
    clear w1 m1 w0
    go_enter Tryz.func5, Tryz.ntmps5
    go_wp2_with (go_at_call 15; refine (KA.out _ hT).mono ?_; rintro e w1 ⟨rfl, hb1⟩)
    go_ret
    exact ⟨rfl, hb1⟩
  have hn30 : n ≤ 30 := by omega
  obtain ⟨S, hS⟩ : ∃ S : Int → Bool, S = fun c => okC c (bl b) := ⟨_, rfl⟩
  have K1 : Hid (∀ c, ∃ (u : ByteArray) (x y : Int), (∀ w, Calls Tryz.prog 24 #[.int .i64 c, .string b] w fun e w' => e = .returned (.tuple #[.string u, .int .i64 x, .int .i64 y]) ∧ Below w.heap.size w w') ∧ decide (x = 0) = S c) := by
    intro c
    obtain ⟨u, x, y, e1, e2⟩ := dec9_form c (bl b)
    refine ⟨u, x, y, fun w => ?_, by rw [e2, hS]⟩
    have := dec9_any c b w (by omega)
    rw [e1] at this
    exact this
  have K2 : Hid (∀ v w, TW w → Row w v n (ccells L) → Calls Tryz.prog 25 #[.string b, v] w fun e w' => ∃ v', e = .returned v' ∧ OwnC w' w.heap.size v' (L.filter S) ∧ Below w.heap.size w w') :=
    Lib.hid fun v w hT hr => by rw [hS]; exact try_any b v L w hT (by omega) (by rw [← hn]; exact hr) (by omega)
  obtain ⟨F, hF⟩ : ∃ F, F = L.filter S := ⟨_, rfl⟩
  have hFl : F.length ≤ 30 := by rw [hF]; exact Nat.le_trans (List.length_filter_le ..) (by omega)
  rw [← hF] at K2
  have HC := Lib.hid hc
  have HN := Lib.hid hn
  have HT := Lib.hid hT
  have HF := Lib.hid hF
  clear hc hn hT hF
  clear w1 m1 w0 h2 hS
  go_enter Tryz.func5, Tryz.ntmps5
  go_wp2
  go_loopw [5, 6, 25] (fun av cv iv wr => ∃ (i : Nat) (A C : List Int), iv = .int .i64 (i : Int) ∧ OwnC wr w.heap.size av A ∧ OwnC wr w.heap.size cv C ∧ Apart av cv ∧ i ≤ n ∧ A.length = i ∧ C.length ≤ i ∧ Hid (A = L.take i) ∧ Hid (C ++ (L.drop i).filter S = F) ∧ Below w.heap.size w wr) (fun _ _ iv _ => n - (intOf iv).toNat)
  case atStart => exact ⟨0, [], [], rfl, World.ownsRow_nil _ _ _ _, World.ownsRow_nil _ _ _ _, fun k h => (by cases h), Nat.zero_le _, rfl, Nat.le_refl _, Lib.hid rfl, Lib.hid HF.out.symm, Below.refl _ _⟩
  case round =>
    obtain ⟨i, A, C, rfl, hA, hC, hap, hi, hAl, hCl, hQ, hP, hbel⟩ := hrel
    by_cases hlt : i < n
    · obtain ⟨c, hcc⟩ := at_some L i (by rw [← HN.out]; exact hlt)
      obtain ⟨g, o, rfl, hcell⟩ := HC.out i (.int .i64 c) (by simp [ccells, hcc])
      have hcell := kc hbel hcell
      have hq : A ++ [c] = L.take (i + 1) := by rw [hQ.out, List.take_add_one, hcc]; rfl
      have HQ := Lib.hid hq
      have hdr : L.drop i = c :: L.drop (i + 1) := by
        obtain ⟨h1, h2⟩ := List.getElem?_eq_some_iff.1 hcc
        rw [List.drop_eq_getElem_cons h1, h2]
      have hp := hP.out
      rw [hdr, List.filter_cons] at hp
      obtain ⟨u, x, y, k1, k2⟩ := K1.out c
      have HA := Lib.hid hA
      have HCC := Lib.hid hC
      have HAP := Lib.hid hap
      clear hq hcc hQ hdr hP hA hC hap
      cases hs : S c with
      | false =>
        rw [hs, if_neg (by decide)] at hp
        rw [hs] at k2
        have hx0 : ¬ x = 0 := by simpa using k2
        have hxB : (x == 0) = false := by simpa using hx0
        have K1' := Lib.hid k1
        have HP := Lib.hid hp
        clear k1 hp
        clear hs k2
        go_wp2_with (first
          | (at_builtin; go_loud (refine wpList_push1L rfl _ _ 40 28 rfl Tryz.underlying40 (.int .i64 0) 1 8 infoCs rfl (by decide) wr w.heap.size u5 A.length (ccells A) rfl HA.out #[.int .i64 c] rfl (by simp [Value.oneCell']) rfl (by omega) (by omega) hbel.size ?_; intro v' w4 hown4 hb4 hk4 hl4; obtain ⟨hC4, hap4⟩ := push_other (B := 0) HAP.out HCC.out hk4 hl4; have HA4 := Lib.hid (OwnC.add hown4); have HC4 := Lib.hid hC4; have HAP4 := Lib.hid hap4; clear hown4 hk4 hl4 hC4 hap4))
          | (go_at_call 24; refine (K1'.out _).mono ?_; rintro e w5 ⟨rfl, hb5⟩))
        have hB5 := (hbel.trans hb4).trans (hb5.mono (hbel.trans hb4).size)
        go_roundw
        case rel => exact ⟨i + 1, A ++ [c], C, by go_num, OwnC.bel HA4.out hb5, OwnC.bel HC4.out hb5, HAP4.out, by omega, by rw [List.length_append]; simp; omega, by omega, HQ, HP, hB5⟩
        case measure => simp [intOf]; omega
      | true =>
        rw [hs, if_pos rfl] at hp
        rw [hs] at k2
        have hx0 : x = 0 := by simpa using k2
        subst hx0
        have hp2 : (C ++ [c]) ++ (L.drop (i + 1)).filter S = F := by rw [List.append_assoc]; exact hp
        have K1' := Lib.hid k1
        have HP := Lib.hid hp2
        clear k1 hp2
        clear hs k2 hp
        go_wp2_with (first
          | (at_builtin; go_loud (refine wpList_push1L rfl _ _ 40 28 rfl Tryz.underlying40 (.int .i64 0) 1 8 infoCs rfl (by decide) wr w.heap.size u5 A.length (ccells A) rfl HA.out #[.int .i64 c] rfl (by simp [Value.oneCell']) rfl (by omega) (by omega) hbel.size ?_; intro v' w4 hown4 hb4 hk4 hl4; obtain ⟨hC4, hap4⟩ := push_other (B := 0) HAP.out HCC.out hk4 hl4; have HA4 := Lib.hid (OwnC.add hown4); have HC4 := Lib.hid hC4; have HAP4 := Lib.hid hap4; clear hown4 hk4 hl4 hC4 hap4))
          | (go_at_call 24; refine (K1'.out _).mono ?_; rintro e w5 ⟨rfl, hb5⟩; have hB5 := (hbel.trans hb4).trans (hb5.mono (hbel.trans hb4).size))
          | (at_builtin; go_loud (refine wpList_push1L rfl _ _ 40 28 rfl Tryz.underlying40 (.int .i64 0) 1 8 infoCs rfl (by decide) w5 w.heap.size u6 C.length (ccells C) rfl (OwnC.bel HC4.out hb5) #[.int .i64 c] rfl (by simp [Value.oneCell']) rfl (by omega) (by omega) hB5.size ?_; intro v6 w6 hown6 hb6 hk6 hl6; obtain ⟨hA6, hap6⟩ := push_other (B := 0) HAP4.out.symm (OwnC.bel HA4.out hb5) hk6 hl6)))
        go_roundw
        case rel => exact ⟨i + 1, A ++ [c], C ++ [c], by go_num, hA6, OwnC.add hown6, hap6.symm, by omega, by rw [List.length_append]; simp; omega, by rw [List.length_append]; simp; omega, HQ, HP, hB5.trans hb6⟩
        case measure => simp [intOf]; omega
    · have hin : i = n := by omega
      have hr1 : Row wr u5 n (ccells L) := by
        have h := hA.row
        have e : A = L := by rw [hQ.out, List.take_of_length_le (by rw [← HN.out]; omega)]
        rw [e, ← HN.out] at h
        exact h
      have hr2 : Row wr u6 F.length (ccells F) := by
        have h := hC.row
        have e : C = F := by rw [← hP.out, List.drop_of_length_le (by rw [← HN.out]; omega)]; simp
        rw [e] at h
        exact h
      obtain ⟨m, hm⟩ : ∃ m, m = F.length := ⟨_, rfl⟩
      rw [← hm] at hr2 hFl
      obtain ⟨a', cap', rfl, hc'⟩ := hr1
      obtain ⟨a2, cap2, rfl, hc2⟩ := hr2
      have HR1 : Hid (Row wr (.slice a' n cap') n (ccells L)) := Lib.hid ⟨a', cap', rfl, hc'⟩
      have HTr := Lib.hid (HT.out.bel hbel)
      have HC2 := Lib.hid hc2
      have HM := Lib.hid hm
      clear hc' hc2 hQ hP hA hC hap hAl hCl hlt hm
      subst hin
      go_wp2_with (go_at_call 25; refine (K2.out _ _ HTr.out HR1.out).mono ?_; rintro e w1 ⟨v3, rfl, hown3, hb1⟩; have hr3 := hown3.row; rw [← HM.out] at hr3; obtain ⟨a3, cap3, rfl, hc3⟩ := hr3; clear hown3)
      have HC3 := Lib.hid hc3
      have HC2' : Hid (∀ j x, (ccells F)[j]? = some x → ∃ g o, a2 = some ⟨g, o, none⟩ ∧ w1.cell? ⟨g, o + j, none⟩ = some x) := Lib.hid (fun j x h => by
        obtain ⟨g, o, e, hx⟩ := HC2.out j x h
        exact ⟨g, o, e, kc hb1 hx⟩)
      have HB1 := Lib.hid (bt hbel hb1)
      clear hc3 hb1 HC2
      go_loopw [57] (fun iv wr => ∃ j : Nat, iv = .int .i64 (j : Int) ∧ j ≤ m ∧ Below w1.heap.size w1 wr) (fun iv _ => m - (intOf iv).toNat)
      case atStart => exact ⟨0, rfl, Nat.zero_le _, Below.refl _ _⟩
      case round =>
        obtain ⟨j, rfl, hj, hbj⟩ := hrel
        by_cases hlt : j < m
        · obtain ⟨c, hcc⟩ := at_some F j (by rw [← HM.out]; exact hlt)
          have hcv : (ccells F)[j]? = some (.int .i64 c) := by unfold ccells; rw [List.getElem?_map, hcc]; rfl
          obtain ⟨g3, o3, rfl, cell3⟩ := HC3.out j _ hcv
          obtain ⟨g2, o2, rfl, cell2⟩ := HC2'.out j _ hcv
          have cell3 := kc hbj cell3
          have cell2 := kc hbj cell2
          have hg3 := fun x : Grown wr => x.cell cell3
          have hg2 := fun x : Grown wr => x.cell cell2
          clear hcc hcv
          go_wp2_with fail
          refine wp_region_grown (by kernel_rfl) (by kernel_rfl) ?_
          repeat (first | go_big_quiet_step ((fail)) | quiet_step ((fail)))
          refine wpQuiet_nil ?_
          intro _ hw'
          obtain ⟨xg, rfl⟩ := hw'
          have hbx := bt hbj xg.bel
          clear hg3 hg2
          generalize xg.wd = W5 at *
          clear xg
          go_wp2
          go_roundw
          case rel => exact ⟨j + 1, by go_num, by omega, hbx⟩
          case measure => simp [intOf]; omega
        · have hjm : j = m := by omega
          subst hjm
          have hBr := HB1.out.trans (hbj.mono HB1.out.size)
          have HTj := Lib.hid (HT.out.bel hBr)
          clear hlt
          go_wp2_with (go_at_call 15; refine (KA.out _ HTj.out).mono ?_; rintro e w8 ⟨rfl, hb8⟩)
          go_ret
          exact ⟨rfl, bt hBr hb8⟩

set_option maxRecDepth 100000 in
theorem lifted (os : Os) (started : os.Started) (H : Type) (enc : TypeId × Value → H) :
    ReturnsInHanded {} Tryz.checked os 5 .any (fun w args => (Rows.charsetTriesSpec.pre enc Tryz.prog Tryz.f5 Rows.charsetTriesRow.domain false w args ∧ laidMetH Tryz.prog laid3 w) ∧ sizedMet enc Tryz.prog Tryz.f5 (OpenSpec.ofChange Rows.charsetTriesSpec) false w args) (Rows.charsetTriesSpec.post enc Tryz.prog Tryz.f5 false true false false) := by
  refine handed_laid_shaped (C := Tryz.checked) (X := fun w => laidMetH Tryz.prog laid3 w) (fun _ _ hh h => h.of_heap hh) own started (by kernel_rfl) Tryz.func5
    (ChangeSpec.witness_shaped (enc := enc) (C := Tryz.checked) (os := os) (X := fun w _ => laidMetH Tryz.prog laid3 w) false (World.laidAll Tryz.prog os laid3) #[.string ByteArray.empty, .slice none 0 0] 8 (World.laidAll_os _ _ _) (laid_shaped os _) (by kernel_rfl) (by kernel_rfl) (by kernel_rfl) (laid_met os _)) ?_
  intro W base args ds gs before hval0 hW hL hsh
  have hT := tw_of_laid hL hsh
  have hval : ∀ (j : Nat) t v, Tryz.f5.params[j]? = some t → args[j]? = some v → Value.okWide Tryz.prog W .any base t v := hval0
  have hW' := hW
  obtain ⟨p, q, hA0, hV, rfl, hfz, hnd⟩ := hW
  have hA : DataW.TrodAll enc Tryz.prog W 0 (fun _ => true) true Tryz.f5.params.toList args.toList ds p := hA0
  rw [Tryz.params5] at hA hval
  obtain ⟨v0, vs0, d0, ds0, p0, q0, hargs, rfl, rfl, h0, r0⟩ := trodAll_cons hA
  obtain ⟨v1, vs1, d1, ds1, p1, q1, rfl, rfl, rfl, h1, r1⟩ := trodAll_cons r0
  obtain ⟨rfl, rfl, rfl⟩ := trodAll_nil r1
  obtain rfl : args = #[v0, v1] := by cases args; simp_all
  obtain ⟨rfl, rfl⟩ := trodVars_none hV
  obtain ⟨a0, rfl, rfl, rfl, w0⟩ := open_string Tryz.underlying9 (hval 0 9 v0 rfl rfl) h0
  obtain ⟨a1, w1, m1, R1, S1⟩ := open_row Tryz.underlying39 Tryz.underlying3 (by kernel_rfl) (hval 1 39 v1 rfl rfl) h1
  clear hA0 hval0
  simp only [List.append_nil] at hW'
  refine (walk a0 v1 a1 w0 w1 m1 W R1 hT).mono fun e W' ⟨he, hg⟩ => ?_
  subst he
  obtain ⟨ps1, T1⟩ := S1 W' hg
  exact ⟨_, rfl, post_below (pa := _) (pv := []) hW' (trodAll_cons_mk (shut_bool Tryz.underlying4 _) trodAll_mk0) (trodAll_cons_mk (shut_string Tryz.underlying9 w0) (trodAll_cons_mk T1 trodAll_mk0)) rfl hg⟩

theorem over : Rows.charsetTriesRow.holds Tryz.pinned (OpenSpec.ofChange Rows.charsetTriesSpec) :=
  OpenClaim.holds_of_wide 5 Tryz.f5 rfl rfl rfl rfl rfl rfl rfl ⟨rfl, rfl, rfl, rfl, rfl⟩ rfl rfl rfl rfl rfl k_named Tryz.func5 k_joined (of_decide_eq_true (by kernel_rfl)) k_wrap
    (fun os started H enc _ => lifted os started H enc)

/-- THE STATEMENT: the tied card -/
theorem proved : Rows.CharsetTriesCardSaid :=
  Claim7.holds_tied_plain_at .later [] [.data, .data, .pinned] true Rows.charsetTriesCard.stood.harness Rows.charsetTriesCard.stood.looks over (fun _ h => by cases h) k_wf (fun _ h => by cases h) charsetTries_row_tie rfl ⟨rfl, rfl⟩ k_main rfl
    (fun f fn hf hfn => by
      obtain rfl : f = 5 := Option.some.inj (k_named.symm.trans hf) |>.symm
      obtain rfl : fn = Tryz.f5 := (Option.some.inj (Tryz.func5.symm.trans hfn)).symm
      exact ⟨k_looks, fun j t ht => by
        rw [Tryz.params5] at ht
        have hm : t ∈ [9, 39] := by simpa using Array.mem_of_getElem? ht
        exact (show Tryz.prog.wantsStandIn t = false by simpa using List.all_eq_true.1 k_stand t hm)⟩)
    k_goes
#print axioms proved
end Go.Proofs.YtbijjomknbnmfaaGreatDoor.charsetTries
