/- CommentNames holds: whether any text may be a name is the document's; the notes of a name are those whose name is the same, capitals taken as small letters, in order. No condition. -/
import Derived.Test.YtmpndnebjahdjaaGreatDoorFr
import Derived.Test.YtmpndnebjahdjaaGreatDoorTie
import Derived.Test.YtmpndnebjahdjaaGreatDoorCards
import Derived.Test.YtmpndnebjahdjaaGreatDoorKz
import Derived.Test.YtmpndnebjahdjaaGreatDoorKCommentNames
import Derived.Test.YtmpndnebjahdjaaGreatDoorAy
namespace Go.Proofs.YtmpndnebjahdjaaGreatDoor.commentNames
open Go.ChangeShapes Go.WideShapes Go.ChangeAt Go.RowKit Go.ChangeMaps
set_option linter.unusedVariables false
set_option linter.unusedSimpArgs false

theorem light_sm {b : Bk} (h : lightM b = true) : smBk b ∧ b.ns.length ≤ 30 ∧ b.vt.size ≤ 150 ∧ ∀ n ∈ b.ns, n.name.size ≤ 50 ∧ n.text.size ≤ 150 := by
  unfold lightM at h
  simp only [Bool.and_eq_true, decide_eq_true_eq] at h
  obtain ⟨⟨h1, h2⟩, h3⟩ := h
  have h4 : ∀ n ∈ b.ns, n.name.size ≤ 50 ∧ n.text.size ≤ 150 := by
    intro n hn
    have := List.all_eq_true.1 h1 n hn
    unfold lightN at this
    simpa using this
  exact ⟨⟨by omega, by omega, fun n hn => by have := h4 n hn; omega⟩, h2, h3, h4⟩
set_option maxRecDepth 100000 in
set_option maxHeartbeats 8000000 in
theorem walk (v : Value) (b : Bk) (name : ByteArray) (w0 : okBk b) (w1 : name.size ≤ maxLen) (w : World) (R0 : Row w v b.ns.length (ntcells b.ns)) (hT : TW w) :
    Calls Tryz.prog 6 #[.agg #[.string b.vt, .int .i64 b.vs, v], .string name] w fun e w' => e = .returned (.bool true) ∧ Below w.heap.size w w' := by
  have KA := Lib.hid awake19in_any
  have hrow := R0
  have k1 : ∀ w', Below w.heap.size w w' → Calls Tryz.prog 17 #[.agg #[.string b.vt, .int .i64 b.vs, v]] w' fun e w'' => e = .returned (.bool (lightM b)) ∧ Below w'.heap.size w' w'' := fun w' hb => light_any v b w' (R0.keep hb) w0
  obtain ⟨av, cap, rfl, hc⟩ := R0
  have hsm := light_sm (b := b)
  have ka : ∀ w', smBk b → b.ns.length ≤ 30 → Below w.heap.size w w' → Calls Tryz.prog 30 #[.agg #[.string b.vt, .int .i64 b.vs, .slice av b.ns.length cap], .string name] w' fun e w'' => ∃ v', e = .returned v' ∧ w''.ownsRow w'.heap.size 9 1 v' (allM b.ns name).length (scells (allM b.ns name)) ∧ Below w'.heap.size w' w'' :=
    fun w' h1 h2 hb => call_any _ b name w' (hrow.keep hb) h1 (by omega)
  obtain ⟨vt, vs, ns⟩ := b
  simp only at k1 ka hc hsm ⊢
  generalize lightM ⟨vt, vs, ns⟩ = lt at *
  obtain ⟨n, hn⟩ : ∃ n, n = ns.length := ⟨_, rfl⟩
  rw [← hn] at k1 ka hsm ⊢
  obtain ⟨W, hW⟩ : ∃ W, W = w.alloc (.cells #[.string vt, .int .i64 vs, .slice av n cap] 37) := ⟨_, rfl⟩
  have hbW : Below w.heap.size w W := by rw [hW]; exact bal (Below.refl _ _) _
  have lc : ∀ (i : Nat) (u : Value), (#[.string vt, .int .i64 vs, .slice av n cap] : Array Value)[i]? = some u → W.cell? ⟨w.heap.size, i, none⟩ = some u := by
    intro i u hu; rw [hW]; exact (Live.fresh w _ 37 i u hu).1
  have c0 := lc 0 _ rfl
  have c1 := lc 1 _ rfl
  have c2 := lc 2 _ rfl
  unfold maxLen at w1
  have hTW := hT.bel hbW
  clear lc w0 hrow
  cases lt with
  | false =>
    have K1 := Lib.hid k1
    have HBW := Lib.hid hbW
    have HTW := Lib.hid hTW
    have HC := Lib.hid hc
    have HN := Lib.hid hn
    clear k1 hbW hTW hc hn
    clear hsm ka
    go_enter Tryz.func6, Tryz.ntmps6
    go_wp2_with fail
    rw [← hW]
    clear hW
    go_wp2_with (first
      | (go_at_call 17; refine (K1.out _ HBW.out).mono ?_; rintro e w2 ⟨rfl, hb2⟩)
      | (go_at_call 18; refine (KA.out _ (HTW.out.bel hb2)).mono ?_; rintro e w3 ⟨rfl, hb3⟩))
    go_ret
    exact ⟨rfl, HBW.out.trans ((bt hb2 hb3).mono HBW.out.size)⟩
  | true =>
    obtain ⟨s1, s2, s3, s4⟩ := hsm rfl
    have ka := fun w' hb => ka w' s1 s2 hb
    by_cases hnm : 50 < name.size
    · have hgt : (name.size : Int) > 50 := by omega
      have K1 := Lib.hid k1
      have HBW := Lib.hid hbW
      have HTW := Lib.hid hTW
      have HC := Lib.hid hc
      have HN := Lib.hid hn
      clear k1 hbW hTW hc hn
      clear hsm ka s1 s2 s3 s4
      go_enter Tryz.func6, Tryz.ntmps6
      go_wp2_with fail
      rw [← hW]
      clear hW
      go_wp2_with (first
        | (go_at_call 17; refine (K1.out _ HBW.out).mono ?_; rintro e w2 ⟨rfl, hb2⟩)
        | (go_at_call 18; refine (KA.out _ (HTW.out.bel hb2)).mono ?_; rintro e w3 ⟨rfl, hb3⟩))
      go_ret
      exact ⟨rfl, HBW.out.trans ((bt hb2 hb3).mono HBW.out.size)⟩
    · have hgt : ¬ (name.size : Int) > 50 := by omega
      have k2 := fun w => cnamed_any name w (by omega)
      have k3 := fun w => rnamed_any name w (by omega)
      generalize namedNM (bl name) = nb at *
      have K5 : Hid (∀ (x : Nt) (w : World), x.name.size ≤ 50 → Calls Tryz.prog 29 #[.string x.name, .string name] w fun e w' => e = .returned (.bool (likeM (bl x.name) (bl name))) ∧ Below w.heap.size w w') := fun x w h => lalike_any x.name name w (by omega)
      obtain ⟨C, hC⟩ : ∃ C, C = allM ns name := ⟨_, rfl⟩
      rw [← hC] at ka
      have hCl : C.length ≤ n := by rw [hC, hn]; exact all_len _ _
      have K1 := Lib.hid k1
      have K2 := Lib.hid k2
      have K3 := Lib.hid k3
      have KAL := Lib.hid ka
      have HBW := Lib.hid hbW
      have HTW := Lib.hid hTW
      have HC := Lib.hid hc
      have HN := Lib.hid hn
      have S4 := Lib.hid s4
      have HCC := Lib.hid hC
      clear k1 k2 k3 ka hbW hTW hc hn s4 hC
      clear hsm s1 s3
      go_enter Tryz.func6, Tryz.ntmps6
      go_wp2_with fail
      rw [← hW]
      clear hW
      go_wp2_with (first
        | (go_at_call 17; refine (K1.out _ HBW.out).mono ?_; rintro e w2 ⟨rfl, hb2⟩)
        | (go_at_call 27; refine (K2.out _).mono ?_; rintro e w3 ⟨rfl, hb3⟩)
        | (go_at_call 28; refine (K3.out _).mono ?_; rintro e w4 ⟨rfl, hb4⟩; have hb24 := bt (bt hb2 hb3) hb4; have d2 := kc hb24 c2))
      go_loopw [5, 27] (fun lv iv wr => ∃ (k : Nat) (acc : List ByteArray), iv = .int .i64 (k : Int) ∧ k ≤ n ∧ acc.length ≤ k ∧ wr.ownsRow W.heap.size 9 1 lv acc.length (scells acc) ∧ Hid (acc ++ allM (ns.drop k) name = C) ∧ Below W.heap.size W wr) (fun _ iv _ => n - (intOf iv).toNat)
      case atStart => exact ⟨0, [], rfl, Nat.zero_le _, Nat.le_refl _, World.ownsRow_nil _ _ _ _, Lib.hid (by rw [List.drop_zero]; exact HCC.out.symm), hb24⟩
      case round =>
        obtain ⟨k, acc, rfl, hk, hacc, hown, hA, hbel⟩ := hrel
        clear d2 hb2 hb3 hb4 hb24
        by_cases hlt : k < n
        · obtain ⟨x, hx⟩ := at_some ns k (by rw [← HN.out]; exact hlt)
          obtain ⟨g, o, rfl, d0, d1, d2⟩ := nt_at HC.out k x hx
          have d0 := kc hbel (kc HBW.out d0)
          have d1 := kc hbel (kc HBW.out d1)
          have d2 := kc hbel (kc HBW.out d2)
          obtain ⟨b1, b2⟩ := S4.out x (List.mem_of_getElem? hx)
          obtain ⟨hx1, hx2⟩ := List.getElem?_eq_some_iff.1 hx
          have hA2 := hA.out
          rw [List.drop_eq_getElem_cons hx1, hx2, all_cons] at hA2
          have kn := fun w => K5.out x w b1
          have hba := bal hbel (.cells #[.string x.name, .string x.text, .int .i64 x.set] 58)
          have f1 := (Live.fresh wr #[.string x.name, .string x.text, .int .i64 x.set] 58 1 _ rfl)
          have hown1 := orow_bel hown ((Below.refl wr.heap.size wr).alloc (Nat.le_refl _) (.cells #[.string x.name, .string x.text, .int .i64 x.set] 58))
          have hz3 : acc.length < 70368744177664 := by omega
          have hz5 : (acc.length + 1) * 16 ≤ 140737488355328 := by omega
          have HBA := Lib.hid hba
          have F1 := Lib.hid f1
          have HO1 := Lib.hid hown1
          have HZ3 := Lib.hid hz3
          have HZ5 := Lib.hid hz5
          clear hba f1 hown1 hz3 hz5
          clear hA hx1 hx2 hx
          cases hl : likeM (bl x.name) (bl name) with
          | false =>
            rw [hl] at kn hA2
            rw [if_neg (by decide), List.nil_append] at hA2
            have KN := Lib.hid kn
            have HA2 := Lib.hid hA2
            clear kn hA2
            clear hl
            go_wp2_with (go_at_call 29; refine (KN.out _).mono ?_; rintro e w2 ⟨rfl, hb2⟩)
            go_roundw
            case rel => exact ⟨k + 1, acc, by go_num, by omega, by omega, orow_bel HO1.out hb2, HA2, bt HBA.out hb2⟩
            case measure => simp [intOf]; omega
          | true =>
            rw [hl] at kn hA2
            rw [if_pos rfl, ← List.append_assoc] at hA2
            have KN := Lib.hid kn
            have HA2 := Lib.hid hA2
            clear kn hA2
            clear hl
            go_wp2_with (first
              | (go_at_call 29; refine (KN.out _).mono ?_; rintro e w2 ⟨rfl, hb2⟩; obtain ⟨g1, _⟩ := F1.out.keep hb2; have hbz := bt HBA.out hb2)
              | (at_builtin; go_loud (refine wpList_push1 rfl _ _ 63 9 rfl Tryz.underlying63 (.string ⟨#[]⟩) 1 16 infoStr rfl (by decide) w2 W.heap.size u5 acc.length (scells acc) rfl (orow_bel HO1.out hb2) #[.string x.text] rfl (by simp [Value.oneCell']) rfl HZ3.out HZ5.out hbz.size ?_; intro v' w7 hown7 hb7 hk7)))
            have hown8 : w7.ownsRow W.heap.size 9 1 v' (acc ++ [x.text]).length (scells (acc ++ [x.text])) := by
              rw [scells_append, List.length_append]
              exact hown7
            go_roundw
            case rel => exact ⟨k + 1, acc ++ [x.text], by go_num, by omega, by rw [List.length_append]; simp; omega, hown8, HA2, hbz.trans hb7⟩
            case measure => simp [intOf]; omega
        · have hkn : k = n := by omega
          subst hkn
          have ha := hA.out
          rw [List.drop_of_length_le (by rw [← HN.out]; exact Nat.le_refl _)] at ha
          have hr : acc = C := by rw [← ha]; simp [allM]
          subst hr
          obtain ⟨a1, p1, rfl⟩ := orow_form hown
          have e0 := kc hbel c0
          have e1 := kc hbel c1
          have e2 := kc hbel c2
          have hbf := HBW.out.trans (hbel.mono HBW.out.size)
          have HBF := Lib.hid hbf
          clear hbf
          clear ha hA
          go_wp2_with (go_at_call 30; refine (KAL.out _ HBF.out).mono ?_; rintro e w8 ⟨v8, rfl, hown8, hb8⟩; obtain ⟨a2, p2, rfl⟩ := orow_form hown8)
          have hrow1 := (row_owns hown).keep hb8
          have hrow2 := row_owns hown8
          have hb9 := bt HBF.out hb8
          have HB9 := Lib.hid hb9
          clear hb9
          go_loopw [52] (fun iv wr => ∃ k : Nat, iv = .int .i64 (k : Int) ∧ k ≤ acc.length ∧ Below w8.heap.size w8 wr) (fun iv _ => acc.length - (intOf iv).toNat)
          case atStart => exact ⟨0, rfl, Nat.zero_le _, Below.refl _ _⟩
          case round =>
            obtain ⟨j, rfl, hj, hbj⟩ := hrel
            by_cases hjl : j < acc.length
            · obtain ⟨s, hs⟩ := at_some acc j hjl
              obtain ⟨g1, o1, q1, e1', h1⟩ := row_at hrow1 j (.string s) (by simp [scells, hs])
              obtain ⟨g2, o2, q2, e2', h2⟩ := row_at hrow2 j (.string s) (by simp [scells, hs])
              simp only [Value.slice.injEq] at e1' e2'
              obtain ⟨rfl, _, rfl⟩ := e1'
              obtain ⟨rfl, _, rfl⟩ := e2'
              have h1 := kc hbj h1
              have h2 := kc hbj h2
              have m0 : (0 : Int) ≤ (j : Int) := by omega
              have m1 : (j : Int) < (acc.length : Int) := by omega
              clear hs hrow1 hrow2 hown hown8
              go_wp2
              go_quiet (fail)
              go_wp2
              exact ⟨⟨j + 1, by go_num, by omega, bdn hbj _⟩, by simp [intOf]; omega⟩
            · have m1 : ¬ (j : Int) < (acc.length : Int) := by omega
              have hbq := bt HB9.out hbj
              have hTq := hT.bel hbq
              clear hrow1 hrow2 hown hown8
              go_wp2_with (go_at_call 18; refine (KA.out _ hTq).mono ?_; rintro e wz ⟨rfl, hbz⟩)
              go_ret
              exact ⟨rfl, bt hbq hbz⟩
set_option maxRecDepth 100000 in
theorem lifted (os : Os) (started : os.Started) (H : Type) (enc : TypeId × Value → H) :
    ReturnsInHanded {} Tryz.checked os 6 .any (fun w args => (Rows.commentNamesSpec.pre enc Tryz.prog Tryz.f6 Rows.commentNamesRow.domain false w args ∧ laidMetH Tryz.prog laid3 w) ∧ sizedMet enc Tryz.prog Tryz.f6 (OpenSpec.ofChange Rows.commentNamesSpec) false w args) (Rows.commentNamesSpec.post enc Tryz.prog Tryz.f6 false true false false) := by
  refine handed_laid_shaped (C := Tryz.checked) (X := fun w => laidMetH Tryz.prog laid3 w) (fun _ _ hh h => h.of_heap hh) own started (by kernel_rfl) Tryz.func6
    (ChangeSpec.witness_shaped (enc := enc) (C := Tryz.checked) (os := os) (X := fun w _ => laidMetH Tryz.prog laid3 w) false (World.laidAll Tryz.prog os laid3) #[.agg #[.string ByteArray.empty, .int .i64 0, .slice none 0 0], .string ByteArray.empty] 8 (World.laidAll_os _ _ _) (laid_shaped os _) (by kernel_rfl) (by kernel_rfl) (by kernel_rfl) (laid_met os _)) ?_
  intro W base args ds gs before hval0 hW hL hsh
  have hT := tw_of_laid hL hsh
  have hval : ∀ (j : Nat) t v, Tryz.f6.params[j]? = some t → args[j]? = some v → Value.okWide Tryz.prog W .any base t v := hval0
  have hW' := hW
  obtain ⟨p, q, hA0, hV, rfl, hfz, hnd⟩ := hW
  have hA : DataW.TrodAll enc Tryz.prog W 0 (fun _ => true) true Tryz.f6.params.toList args.toList ds p := hA0
  rw [Tryz.params6] at hA hval
  obtain ⟨v0, vs0, d0, ds0, p0, q0, hargs, rfl, rfl, h0, r0⟩ := trodAll_cons hA
  obtain ⟨v1, vs1, d1, ds1, p1, q1, rfl, rfl, rfl, h1, r1⟩ := trodAll_cons r0
  obtain ⟨rfl, rfl, rfl⟩ := trodAll_nil r1
  obtain rfl : args = #[v0, v1] := by cases args; simp_all
  obtain ⟨rfl, rfl⟩ := trodVars_none hV
  have h0k := h0
  obtain ⟨a0, ⟨s0, rfl, R0⟩, w0⟩ := open_block (hval 0 37 v0 rfl rfl) h0
  obtain ⟨a1, rfl, rfl, rfl, w1⟩ := open_string Tryz.underlying9 (hval 1 9 v1 rfl rfl) h1
  clear hA0 hval0
  simp only [List.append_nil] at hW'
  refine (walk s0 a0 a1 w0 w1 W R0 hT).mono fun e W' ⟨he, hg⟩ => ?_
  subst he
  have T0 := Below.trod (W' := W') (by kernel_rfl) (by kernel_rfl) (of_decide_eq_true (by kernel_rfl)) h0k hg (fun x hx => by simpa using hW'.lt x (by simp [hx]))
  exact ⟨_, rfl, post_below (pa := _) (pv := []) hW' (trodAll_cons_mk (shut_bool Tryz.underlying4 _) trodAll_mk0) (trodAll_cons_mk T0 (trodAll_cons_mk (shut_string Tryz.underlying9 w1) trodAll_mk0)) rfl hg⟩

theorem over : Rows.commentNamesRow.holds Tryz.pinned (OpenSpec.ofChange Rows.commentNamesSpec) :=
  OpenClaim.holds_of_wide 6 Tryz.f6 rfl rfl rfl rfl rfl rfl rfl ⟨rfl, rfl, rfl, rfl, rfl⟩ rfl rfl rfl rfl rfl k_named Tryz.func6 k_joined (of_decide_eq_true (by kernel_rfl)) k_wrap
    (fun os started H enc _ => lifted os started H enc)

/-- THE STATEMENT: the tied card -/
theorem proved : Rows.CommentNamesCardSaid :=
  Claim7.holds_tied_plain_at .later [] [.data, .data, .pinned] true Rows.commentNamesCard.stood.harness Rows.commentNamesCard.stood.looks over (fun _ h => by cases h) k_wf (fun _ h => by cases h) commentNames_row_tie rfl ⟨rfl, rfl⟩ k_main rfl
    (fun f fn hf hfn => by
      obtain rfl : f = 6 := Option.some.inj (k_named.symm.trans hf) |>.symm
      obtain rfl : fn = Tryz.f6 := (Option.some.inj (Tryz.func6.symm.trans hfn)).symm
      exact ⟨k_looks, fun j t ht => by
        rw [Tryz.params6] at ht
        have hm : t ∈ [37, 9] := by simpa using Array.mem_of_getElem? ht
        exact (show Tryz.prog.wantsStandIn t = false by simpa using List.all_eq_true.1 k_stand t hm)⟩)
    k_goes
#print axioms proved
end Go.Proofs.YtmpndnebjahdjaaGreatDoor.commentNames
