/- Walks: the reference's signs of two bytes in a charset (layer 9), its texts. -/
import Derived.Test.YtogknbpmgflpgaaGreatDoorTk
import Derived.Test.YtogknbpmgflpgaaGreatDoorTd
import Derived.Test.YtogknbpmgflpgaaGreatDoorRg
import Derived.Test.YtogknbpmgflpgaaGreatDoorCk
namespace Go.Proofs.YtogknbpmgflpgaaGreatDoor
open Go.RowKit
set_option linter.unusedVariables false
set_option linter.unusedSimpArgs false

theorem hasJ_scal (p : Int) (h : hasJ p) : Scal p := by unfold hasJ at h; unfold Scal; omega
set_option maxRecDepth 100000 in
set_option maxHeartbeats 4000000 in
theorem signs9_any (c l s : Int) (w : World) (hc : c = 4 ∨ c = 5 ∨ c = 6) (h0 : 0 ≤ l) (h1 : l ≤ 255) (h2 : 0 ≤ s) (h3 : s ≤ 255) :
    Calls Tryz.prog 127 #[.int .i64 c, .int .i64 l, .int .i64 s] w fun e w' => e = .returned (.string ⟨(signsM c l s).toArray⟩) ∧ Below w.heap.size w w' := by
  rcases hc with rfl | rfl | rfl
  · have k1 := fun w => sign7_any l s w h0 h1 h2 h3
    obtain ⟨e1, e2⟩ := signW_eq l s h0 h1 h2 h3
    have hm : signsM 4 l s = if (wSignM l s).2 = true then (textM [(wSignM l s).1]).1 else [] := rfl
    rw [e1] at hm
    by_cases hz : signW l s = 0
    · rw [hz] at k1 hm
      rw [hm]
      have K1 := Lib.hid k1
      clear k1
      clear e1 e2 hm hz
      go_enter Tryz.func127, Tryz.ntmps127
      go_wp2_with (go_at_call 165; refine (K1.out _).mono ?_; rintro e w1 ⟨rfl, hb1⟩)
      go_ret
      exact ⟨rfl, hb1⟩
    · have hp := e2.resolve_left hz
      rw [optZ_some _ hz, if_pos rfl, textM_one _ hp] at hm
      rw [hm]
      have k2 := fun w => refBytes_any (signW l s) hp w
      have hzB : (signW l s == 0) = false := by simpa using hz
      clear e1 e2 hm
      generalize signW l s = p at *
      have K1 := Lib.hid k1
      have K2 := Lib.hid k2
      clear k1 k2
      go_enter Tryz.func127, Tryz.ntmps127
      go_wp2_with (first
        | (go_at_call 165; refine (K1.out _).mono ?_; rintro e w1 ⟨rfl, hb1⟩)
        | (go_at_call 130; refine (K2.out _).mono ?_; rintro e w2 ⟨rfl, hb2⟩))
      go_ret
      exact ⟨rfl, bt hb1 hb2⟩
  · have k1 := fun w => refSign_any (l * 256 + s) w (by omega) (by omega)
    have e2 : signJ (l * 256 + s) ≠ 0 → Scal (signJ (l * 256 + s)) := fun h => hasJ_scal _ (signJ_has _ (by omega) (by omega) h)
    have hm : signsM 5 l s = if signJB (l * 256 + s) = true then (textM [signJ (l * 256 + s)]).1 else [] := rfl
    unfold signJB at hm
    by_cases hz : signJ (l * 256 + s) = 0
    · rw [hz] at k1 hm
      rw [hm]
      have K1 := Lib.hid k1
      clear k1
      clear e2 hm hz
      go_enter Tryz.func127, Tryz.ntmps127
      go_wp2_with (go_at_call 166; refine (K1.out _).mono ?_; rintro e w1 ⟨rfl, hb1⟩)
      go_ret
      exact ⟨rfl, hb1⟩
    · have hp := e2 hz
      rw [decide_eq_false hz, Bool.not_false, if_pos rfl, textM_one _ hp] at hm
      rw [hm]
      have k2 := fun w => refBytes_any (signJ (l * 256 + s)) hp w
      have hzB : (signJ (l * 256 + s) == 0) = false := by simpa using hz
      clear e2 hm
      generalize signJ (l * 256 + s) = p at *
      have K1 := Lib.hid k1
      have K2 := Lib.hid k2
      clear k1 k2
      go_enter Tryz.func127, Tryz.ntmps127
      go_wp2_with (first
        | (go_at_call 166; refine (K1.out _).mono ?_; rintro e w1 ⟨rfl, hb1⟩)
        | (go_at_call 130; refine (K2.out _).mono ?_; rintro e w2 ⟨rfl, hb2⟩))
      go_ret
      exact ⟨rfl, bt hb1 hb2⟩
  · have k1 := fun w => signs8_any l s w h0 h1 h2 h3 (oneM_eq l s).2
    have hm : signsM 6 l s = (bSignsM l s).1 := rfl
    rw [hm, ← signs8_eq l s h0 h1 h2 h3]
    generalize signs8R l s = R at *
    have K1 := Lib.hid k1
    clear k1
    clear hm
    go_enter Tryz.func127, Tryz.ntmps127
    go_wp2_with (go_at_call 164; refine (K1.out _).mono ?_; rintro e w1 ⟨rfl, hb1⟩)
    go_ret
    exact ⟨rfl, hb1⟩
/-- what the reference answers. -/
def codeI : Option Nat → Int
  | none => 0
  | some _ => 2
def atI : Option Nat → Int
  | none => 0
  | some q => (q : Nat)
def dec9R (r : List UInt8 × Option Nat) : Value := .tuple #[.string ⟨r.1.toArray⟩, .int .i64 (codeI r.2), .int .i64 (atI r.2)]
noncomputable def dec9V (c : Int) (l : List UInt8) : Value := if 0 ≤ c ∧ c ≤ 9 then dec9R (decT (tokC c) l) else .tuple #[.string ⟨#[]⟩, .int .i64 5, .int .i64 0]
def D9Post (r : Value) (w : World) (e : Ending) (w' : World) : Prop := e = .returned r ∧ Below w.heap.size w w'
theorem cut_one (s : ByteArray) (k : Nat) (h : k < s.size) : bl (s.extract k (k + 1)) = ((bl s).drop k).take 1 := by
  unfold bl
  rw [Lib.extract_data, show k + 1 - k = 1 from by omega]
set_option maxRecDepth 100000 in
set_option maxHeartbeats 8000000 in
theorem dec9_two (c : Int) (s : ByteArray) (w : World) (hs : s.size ≤ 1048576) (hc : c = 4 ∨ c = 5 ∨ c = 6) :
    Calls Tryz.prog 95 #[.int .i64 c, .string s] w (D9Post (dec9R (decT (tok2 c) (bl s))) w) := by
  have HL : Hid ((bl s).length = s.size) := bl_length s
  obtain ⟨R, hR⟩ : ∃ R, R = decT (tok2 c) (bl s) := ⟨_, rfl⟩
  have K1 : Hid (∀ (x y : UInt8) w, Calls Tryz.prog 127 #[.int .i64 c, .int .i64 (x.toNat : Int), .int .i64 (y.toNat : Int)] w fun e w' => e = .returned (.string ⟨(signsM c x.toNat y.toNat).toArray⟩) ∧ Below w.heap.size w w') :=
    Lib.hid (fun x y w => by have := x.toNat_lt; have := y.toNat_lt; exact signs9_any c _ _ w hc (by omega) (by omega) (by omega) (by omega))
  rw [← hR]
  have hc0 : 4 ≤ c := by omega
  have hc1 : c ≤ 6 := by omega
  clear hc
  have HR := Lib.hid hR
  clear hR
  go_enter Tryz.func95, Tryz.ntmps95
  go_wp2
  go_loopw [11, 12] (fun tv iv wr => ∃ (f k : Nat) (T : ByteArray), iv = .int .i64 (k : Int) ∧ tv = .string T ∧ k ≤ s.size ∧ T.size ≤ 1024 * k ∧ s.size - k ≤ f ∧ Hid (runT (tok2 c) f ((bl s).drop k) k (bl T) = R) ∧ Below w.heap.size w wr) (fun _ iv _ => s.size - (intOf iv).toNat)
  case atStart => exact ⟨s.size, 0, ⟨#[]⟩, rfl, rfl, Nat.zero_le _, by decide, by omega, Lib.hid (by have := HR.out; unfold decT at this; rw [HL.out] at this; rw [this]; rfl), Below.refl _ _⟩
  case round =>
    obtain ⟨f, k, T, rfl, rfl, hk, hT, hf, hQ, hbel⟩ := hrel
    by_cases hlt : k < s.size
    · obtain ⟨f, rfl⟩ : ∃ g, f = g + 1 := ⟨f - 1, by omega⟩
      obtain ⟨x, hx⟩ := at_some (bl s) k (by rw [HL.out]; exact hlt)
      have X : ∀ h, s[k]'h = x := atB_of s k x hx
      have hxl := x.toNat_lt
      have hne : (bl s).drop k ≠ [] := drop_ne (by rw [HL.out]; omega)
      have hd := drop_at (bl s) k (List.getElem?_eq_some_iff.1 hx).1
      rw [(List.getElem?_eq_some_iff.1 hx).2] at hd
      have gd : ∀ (t : List UInt8) (m : Nat), tok2 c ((bl s).drop k) = some (t, m) → runT (tok2 c) f ((bl s).drop (k + m)) (k + m) (bl (T ++ ⟨t.toArray⟩)) = R := by
        intro t m e
        have := runT_some (tok := tok2 c) f _ k (bl T) _ _ hne e
        rw [hQ.out, List.drop_drop] at this
        rw [this]; simp [bl]
      have bd : tok2 c ((bl s).drop k) = none → R = ([], some k) := by
        intro e
        have := runT_none (tok := tok2 c) f _ k (bl T) hne e
        rw [hQ.out] at this
        exact this
      by_cases hx8 : x < 128
      · have hx8n : x.toNat < 128 := hx8
        have ht : tok2 c ((bl s).drop k) = some ([x], 1) := by
          rw [hd]
          unfold tok2
          cases (bl s).drop (k + 1) with
          | nil => simp [tokD, hx8]
          | cons y r => simp [tokD, hx8]
        have e1 := gd _ _ ht
        obtain ⟨V, hV⟩ : ∃ V : ByteArray, V = s.extract k (k + 1) := ⟨_, rfl⟩
        have hVb : V = ⟨[x].toArray⟩ := by
          rw [hV]
          apply ByteArray.ext
          apply Array.toList_inj.1
          show bl (s.extract k (k + 1)) = [x]
          rw [cut_one s k hlt, hd]
          simp
        have hTV : (T ++ V).size ≤ 1024 * (k + 1) := by
          have e1 : bl (T ++ V) = bl T ++ bl V := by simp [bl]
          rw [← bl_length, e1, List.length_append, bl_length, hVb]; simp [bl]; omega
        rw [← hVb] at e1
        have E1 := Lib.hid e1
        have HV := Lib.hid hV
        have HVB := Lib.hid hVb
        have HTV := Lib.hid hTV
        have GD := Lib.hid gd
        have BD := Lib.hid bd
        clear e1 hV hVb hTV gd bd
        clear hx hd hne hQ ht
        go_wp2
        rw [← HV.out]
        go_roundw
        case rel => exact ⟨f, k + 1, T ++ V, by go_num, rfl, by omega, HTV.out, by omega, E1, hbel⟩
        case measure => simp [intOf]; omega
      · have hx8n : ¬ x.toNat < 128 := hx8
        by_cases hk2 : k + 1 < s.size
        · obtain ⟨y, hy⟩ := at_some (bl s) (k + 1) (by rw [HL.out]; exact hk2)
          have Y : ∀ h, s[k + 1]'h = y := atB_of s (k + 1) y hy
          have hyl := y.toNat_lt
          have hd2 := drop_at (bl s) (k + 1) (List.getElem?_eq_some_iff.1 hy).1
          rw [(List.getElem?_eq_some_iff.1 hy).2] at hd2
          have ht : tok2 c ((bl s).drop k) = if signsM c x.toNat y.toNat = [] then none else some (signsM c x.toNat y.toNat, 2) := by
            rw [hd, hd2]; unfold tok2; simp [tokD, hx8]
          have hk1 : IntKind.i64.wrap ((k : Int) + 1) = (k : Int) + 1 := wraps_i64 _ (by omega) (by omega)
          have hk1n : ((k : Int) + 1).toNat = k + 1 := by omega
          have hk10 : (0 : Int) ≤ (k : Int) + 1 := by omega
          have k1 := fun w => K1.out x y w
          have hl := signs_len c x y
          obtain ⟨V, hV⟩ : ∃ V : ByteArray, V = ⟨(signsM c x.toNat y.toNat).toArray⟩ := ⟨_, rfl⟩
          have hVb : bl V = signsM c x.toNat y.toNat := by rw [hV]
          rw [← hV] at k1
          have hVl : V.size ≤ 1024 := by rw [← bl_length, hVb]; exact hl
          have hTV : (T ++ V).size ≤ 1024 * (k + 2) := by
            have e1 : bl (T ++ V) = bl T ++ bl V := by simp [bl]
            rw [← bl_length, e1, List.length_append, bl_length, bl_length]; omega
          by_cases hse : signsM c x.toNat y.toNat = []
          · rw [if_pos hse] at ht
            have e1 := bd ht
            have hsB : V.toList.isEmpty = true := by rw [ByteArray.toList_eq]; show (bl V).isEmpty = true; rw [hVb, hse]; rfl
            have K1' := Lib.hid k1
            have E1 := Lib.hid e1
            have HV := Lib.hid hV
            have HVB := Lib.hid hVb
            have HTV := Lib.hid hTV
            have GD := Lib.hid gd
            have BD := Lib.hid bd
            clear k1 e1 hV hVb hTV gd bd
            clear hx hd hne hQ ht hl hse hy hd2
            go_wp2_with fail
            refine wp_region_grown (by kernel_rfl) (by kernel_rfl) ?_
            repeat (first | go_big_quiet_step ((go_at_call 127; exact Calls.grown_of (K1'.out _))) | quiet_step ((go_at_call 127; exact Calls.grown_of (K1'.out _))))
            refine wpQuiet_nil ?_
            intro _ hw'
            obtain ⟨xg, rfl⟩ := hw'
            have hbx := bt hbel xg.bel
            generalize xg.wd = W1 at *
            clear xg
            go_wp2
            all_goals
              refine bodyPost_ret (v := .tuple #[.string ⟨#[]⟩, .int .i64 2, .int .i64 (k : Int)]) (by simp [results, Tryz.results95, go_sem]) rfl ?_
              exact (show D9Post _ _ _ _ from ⟨by rw [E1.out]; rfl, hbx⟩)
          · rw [if_neg hse] at ht
            have e1 := gd _ _ ht
            rw [← hV] at e1
            have hsB : V.toList.isEmpty = false := by
              rw [ByteArray.toList_eq]
              show (bl V).isEmpty = false
              rw [hVb]
              cases hs : signsM c x.toNat y.toNat with
              | nil => exact absurd hs hse
              | cons a b => rfl
            have K1' := Lib.hid k1
            have E1 := Lib.hid e1
            have HV := Lib.hid hV
            have HVB := Lib.hid hVb
            have HTV := Lib.hid hTV
            have GD := Lib.hid gd
            have BD := Lib.hid bd
            clear k1 e1 hV hVb hTV gd bd
            clear hx hd hne hQ ht hl hse hy hd2
            go_wp2_with fail
            refine wp_region_grown (by kernel_rfl) (by kernel_rfl) ?_
            repeat (first | go_big_quiet_step ((go_at_call 127; exact Calls.grown_of (K1'.out _))) | quiet_step ((go_at_call 127; exact Calls.grown_of (K1'.out _))))
            refine wpQuiet_nil ?_
            intro _ hw'
            obtain ⟨xg, rfl⟩ := hw'
            have hbx := bt hbel xg.bel
            generalize xg.wd = W1 at *
            clear xg
            go_wp2
            go_roundw
            case rel => exact ⟨f, k + 2, T ++ V, by go_num, rfl, by omega, HTV.out, by omega, E1, hbx⟩
            case measure => simp [intOf]; omega
        · have hd2 : (bl s).drop (k + 1) = [] := List.drop_of_length_le (by rw [HL.out]; omega)
          have ht : tok2 c ((bl s).drop k) = none := by
            rw [hd, hd2]; unfold tok2; simp [tokD, hx8]
          have e1 := bd ht
          have E1 := Lib.hid e1
          have GD := Lib.hid gd
          have BD := Lib.hid bd
          clear e1 gd bd
          clear hx hd hne hQ ht hd2
          go_wp2
          refine bodyPost_ret (v := .tuple #[.string ⟨#[]⟩, .int .i64 2, .int .i64 (k : Int)]) (by simp [results, Tryz.results95, go_sem]) rfl ?_
          exact (show D9Post _ _ _ _ from ⟨by rw [E1.out]; rfl, hbel⟩)
    · have hk2 : k = s.size := by omega
      subst hk2
      have e1 := hQ.out
      rw [List.drop_of_length_le (by rw [HL.out]; exact Nat.le_refl _), runT_nil] at e1
      have E1 := Lib.hid e1
      clear e1
      clear hQ
      go_wp2
      refine bodyPost_ret (v := .tuple #[.string T, .int .i64 0, .int .i64 0]) (by simp [results, Tryz.results95, go_sem]) rfl ?_
      exact (show D9Post _ _ _ _ from ⟨by rw [← E1.out]; rfl, hbel⟩)
set_option maxRecDepth 100000 in
set_option maxHeartbeats 4000000 in
theorem dec9_any (c : Int) (s : ByteArray) (w : World) (hs : s.size ≤ 1048576) :
    Calls Tryz.prog 95 #[.int .i64 c, .string s] w (D9Post (dec9V c (bl s)) w) := by
  by_cases hc : 0 ≤ c ∧ c ≤ 9
  · have hv : dec9V c (bl s) = dec9R (decT (tokC c) (bl s)) := if_pos hc
    rw [hv]
    clear hv
    obtain ⟨hc0, hc9⟩ := hc
    by_cases h3 : c ≤ 3
    · have k1 := fun w => refDec5_any c s w hc0 h3 hs
      have e1 := dec_good c hc0 h3 (bl s)
      rw [e1] at k1 ⊢
      simp only at k1
      generalize encL ((bl s).map (bySg (kgM (setS c)))) = t at *
      have K1 := Lib.hid k1
      clear k1
      clear e1
      go_enter Tryz.func95, Tryz.ntmps95
      go_wp2_with (go_at_call 125; refine (K1.out _).mono ?_; rintro e w1 ⟨rfl, hb1⟩)
      refine bodyPost_ret (v := .tuple #[.string ⟨t.toArray⟩, .int .i64 0, .int .i64 0]) (by simp [results, Tryz.results95, go_sem]) rfl ?_
      exact (show D9Post _ _ _ _ from ⟨rfl, hb1⟩)
    by_cases h6 : c ≤ 6
    · rw [tokC_two c (by omega) h6]
      exact dec9_two c s w hs (by omega)
    by_cases h7 : c = 7
    · subst h7
      rw [tokC_u, decT_U]
      have k1 := fun w => refPoints_any s w (by omega)
      unfold RPts RPtsS at k1
      unfold decU
      cases hsc : (scanL (bl s)).2 with
      | none =>
        rw [hsc] at k1
        simp only at k1 ⊢
        have K1 := Lib.hid k1
        clear k1
        clear hsc
        go_enter Tryz.func95, Tryz.ntmps95
        go_wp2_with (go_at_call 73; refine (K1.out _).mono ?_; rintro e w1 ⟨⟨v, rfl, hown⟩, hb1⟩)
        refine bodyPost_ret (v := .tuple #[.string s, .int .i64 0, .int .i64 0]) (by simp [results, Tryz.results95, go_sem]) rfl ?_
        exact (show D9Post _ _ _ _ from ⟨rfl, hb1⟩)
      | some q =>
        rw [hsc] at k1
        simp only at k1 ⊢
        have K1 := Lib.hid k1
        clear k1
        clear hsc
        go_enter Tryz.func95, Tryz.ntmps95
        go_wp2_with (go_at_call 73; refine (K1.out _).mono ?_; rintro e w1 ⟨rfl, hb1⟩)
        refine bodyPost_ret (v := .tuple #[.string ⟨#[]⟩, .int .i64 2, .int .i64 (q : Int)]) (by simp [results, Tryz.results95, go_sem]) rfl ?_
        exact (show D9Post _ _ _ _ from ⟨rfl, hb1⟩)
    · rw [tokC_w c (by omega)]
      have k1 := fun w => refDec3_any s (decide (c = 9)) w hs
      have hbad := fun u q => runT_bad (tok := tokW (decide (c = 9))) (bl s).length (bl s) 0 [] u q
      have hB : (c == 9) = decide (c = 9) := by by_cases h : c = 9 <;> simp [h]
      rcases hr : decT (tokW (decide (c = 9))) (bl s) with ⟨t, o⟩
      rw [hr] at k1
      generalize decide (c = 9) = b at *
      cases o with
      | none =>
        have k1 : ∀ w, Calls Tryz.prog 126 #[.string s, .bool b] w fun e w' => e = .returned (.tuple #[.string ⟨t.toArray⟩, .int .i64 (-1)]) ∧ Below w.heap.size w w' := k1
        have K1 := Lib.hid k1
        clear k1
        clear hbad hr
        go_enter Tryz.func95, Tryz.ntmps95
        go_wp2_with (go_at_call 126; refine (K1.out _).mono ?_; rintro e w1 ⟨rfl, hb1⟩)
        refine bodyPost_ret (v := .tuple #[.string ⟨t.toArray⟩, .int .i64 0, .int .i64 0]) (by simp [results, Tryz.results95, go_sem]) rfl ?_
        exact (show D9Post _ _ _ _ from ⟨rfl, hb1⟩)
      | some q =>
        have ht : t = [] := hbad t q hr
        subst ht
        have k1 : ∀ w, Calls Tryz.prog 126 #[.string s, .bool b] w fun e w' => e = .returned (.tuple #[.string ⟨#[]⟩, .int .i64 (q : Int)]) ∧ Below w.heap.size w w' := k1
        have hq0 : (0 : Int) ≤ (q : Int) := by omega
        have K1 := Lib.hid k1
        clear k1
        clear hbad hr
        go_enter Tryz.func95, Tryz.ntmps95
        go_wp2_with (go_at_call 126; refine (K1.out _).mono ?_; rintro e w1 ⟨rfl, hb1⟩)
        refine bodyPost_ret (v := .tuple #[.string ⟨#[]⟩, .int .i64 2, .int .i64 (q : Int)]) (by simp [results, Tryz.results95, go_sem]) rfl ?_
        exact (show D9Post _ _ _ _ from ⟨rfl, hb1⟩)
  · have hv : dec9V c (bl s) = .tuple #[.string ⟨#[]⟩, .int .i64 5, .int .i64 0] := if_neg hc
    rw [hv]
    clear hv
    by_cases h0 : c < 0
    · clear hc
      go_enter Tryz.func95, Tryz.ntmps95
      go_wp2
      refine bodyPost_ret (v := .tuple #[.string ⟨#[]⟩, .int .i64 5, .int .i64 0]) (by simp [results, Tryz.results95, go_sem]) rfl ?_
      exact (show D9Post _ _ _ _ from ⟨rfl, Below.refl _ _⟩)
    · have h9 : 9 < c := by omega
      clear hc
      go_enter Tryz.func95, Tryz.ntmps95
      go_wp2
      refine bodyPost_ret (v := .tuple #[.string ⟨#[]⟩, .int .i64 5, .int .i64 0]) (by simp [results, Tryz.results95, go_sem]) rfl ?_
      exact (show D9Post _ _ _ _ from ⟨rfl, Below.refl _ _⟩)
end Go.Proofs.YtogknbpmgflpgaaGreatDoor
/- Plain: a text that is decoded is made of signs. -/
namespace Go.Proofs.YtogknbpmgflpgaaGreatDoor
open Go.RowKit
set_option linter.unusedVariables false
set_option linter.unusedSimpArgs false

/-- bytes that are signs. -/
def IsL (t : List UInt8) : Prop := ∃ ps : List Int, t = encL ps ∧ ∀ p ∈ ps, Scal p
theorem IsL.nil : IsL [] := ⟨[], rfl, fun p h => by cases h⟩
theorem IsL.one (p : Int) (h : Scal p) : IsL (encR p) := ⟨[p], by simp [encL], fun q hq => by simp at hq; rw [hq]; exact h⟩
theorem IsL.app {a b : List UInt8} (h : IsL a) (k : IsL b) : IsL (a ++ b) := by
  obtain ⟨p, rfl, hp⟩ := h
  obtain ⟨q, rfl, hq⟩ := k
  exact ⟨p ++ q, (encL_append p q).symm, fun x hx => (List.mem_append.1 hx).elim (hp x) (hq x)⟩
theorem IsL.scan {t : List UInt8} (h : IsL t) : (scanL t).2 = none := by
  obtain ⟨p, rfl, hp⟩ := h
  rw [scanL_encL p hp]
theorem IsL.low (b : UInt8) (h : b < 128) : IsL [b] := by
  have h' : b.toNat < 128 := h
  have e : encR (b.toNat : Int) = [b] := by
    unfold encR Lib.encodeRune
    rw [Lib.encodeRuneZ_one (by omega) (by omega)]
    simp
  rw [← e]
  exact IsL.one _ (by unfold Scal; omega)
def GoodT (tok : Tok) : Prop := ∀ l t k, tok l = some (t, k) → IsL t
theorem runT_isl {tok : Tok} (G : GoodT tok) : ∀ (f : Nat) (l : List UInt8) (n : Nat) (acc u : List UInt8), IsL acc → runT tok f l n acc = (u, none) → IsL u := by
  intro f
  induction f with
  | zero => intro l n acc u h e; simp [runT] at e; rw [← e]; exact h
  | succ f ih =>
    intro l n acc u h e
    rw [runT] at e
    split at e
    · simp at e; rw [← e]; exact h
    · split at e
      · simp at e
      · next t k ht => exact ih _ _ _ _ (h.app (G _ _ _ ht)) e
theorem isl_text (l : List Int) : IsL (textM l).1 := by
  unfold textM
  split
  · next h => exact ⟨l, rfl, fun p hp => scal_of (List.all_eq_true.1 h p hp)⟩
  · exact IsL.nil
theorem isl_twos : ∀ (l : List (Int × Int × Int)) (a b : Int), IsL (twosL l a b).1 := by
  intro l
  induction l with
  | nil => intro a b; exact IsL.nil
  | cons s l ih =>
    intro a b
    rw [twosL]
    split
    · exact isl_text _
    · exact ih a b
theorem isl_signs (c l s : Int) : IsL (signsM c l s) := by
  unfold signsM bSignsM
  split
  · split
    · exact isl_text _
    · exact IsL.nil
  · split
    · split
      · exact isl_text _
      · exact IsL.nil
    · split
      · exact isl_text _
      · exact isl_twos _ _ _
theorem good_two (c : Int) : GoodT (tok2 c) := by
  intro l t k h
  unfold tok2 at h
  match l, h with
  | [b], h =>
    simp only [tokD] at h
    split at h
    · next hb => simp at h; rw [← h.1]; exact IsL.low b hb
    · cases h
  | b :: c' :: r, h =>
    simp only [tokD] at h
    split at h
    · next hb => simp at h; rw [← h.1]; exact IsL.low b hb
    · split at h
      · cases h
      · simp at h; rw [← h.1]; exact isl_signs _ _ _
theorem wsignU_scal (U : List Int) (hU : ∀ p ∈ U, 0 ≤ p ∧ p < 65536) (h : (wsignU U).2 ≠ 0) : Scal (wsignU U).1 := by
  match U, hU, h with
  | [], _, h => exact absurd rfl h
  | [f], hU, h =>
    have hf := hU f (by simp)
    unfold wsignU at h ⊢
    split
    · unfold Scal; simp only; omega
    · next hh => rw [if_neg hh] at h; exact absurd rfl h
  | f :: g :: r, hU, h =>
    have hf := hU f (by simp)
    have hg := hU g (by simp)
    unfold wsignU at h ⊢
    split
    · unfold Scal; simp only; omega
    · next h1 =>
      rw [if_neg h1] at h
      simp only at h ⊢
      split
      · next h2 => rw [if_pos h2] at h; exact absurd rfl h
      · next h2 =>
        rw [if_neg h2] at h
        split
        · next h3 => rw [if_pos h3] at h; exact absurd rfl h
        · unfold Scal; simp only; omega
theorem good_W (big : Bool) : GoodT (tokW big) := by
  intro l t k h
  unfold tokW at h
  split at h
  · cases h
  · next hz =>
    simp at h
    rw [← h.1]
    refine IsL.one _ ?_
    rw [wsign_units] at hz ⊢
    exact wsignU_scal _ (unitsL_bd big l) hz
theorem IsL.pts {t : List UInt8} (h : IsL t) : ∀ p ∈ pts t, Scal p := by
  obtain ⟨q, rfl, hq⟩ := h
  rw [pts_encL' q hq]
  exact hq
theorem isl_C (c : Int) (h0 : 0 ≤ c) (h7 : c ≠ 7) (l t : List UInt8) (hd : decT (tokC c) l = (t, none)) : IsL t := by
  by_cases h3 : c ≤ 3
  · rw [dec_good c h0 h3] at hd
    have e := congrArg Prod.fst hd
    simp only at e
    rw [← e]
    refine ⟨_, rfl, fun p hp => ?_⟩
    obtain ⟨b, hb, rfl⟩ := List.mem_map.1 hp
    exact (tok_good _ (good_at c h0 h3) b []).2
  by_cases h6 : c ≤ 6
  · rw [tokC_two c (by omega) h6] at hd
    exact runT_isl (good_two c) _ _ _ _ _ IsL.nil hd
  · rw [tokC_w c (by omega)] at hd
    exact runT_isl (good_W _) _ _ _ _ _ IsL.nil hd
/-- what is decoded, in any charset, is made of signs. -/
theorem valid_C (c : Int) (h0 : 0 ≤ c) (l t : List UInt8) (hd : decT (tokC c) l = (t, none)) : (scanL t).2 = none := by
  by_cases h7 : c = 7
  · subst h7
    rw [tokC_u, decT_U] at hd
    unfold decU at hd
    cases hs : (scanL l).2 with
    | none => rw [hs] at hd; simp at hd; rw [← hd]; exact hs
    | some k => rw [hs] at hd; simp at hd
  · exact (isl_C c h0 h7 l t hd).scan
end Go.Proofs.YtogknbpmgflpgaaGreatDoor
