/- point.Valid; the program's and the reference's charset of any bytes (layer 10). -/
import Derived.Test.YtogknbpmgflpgaaGreatDoorTo
import Derived.Test.YtogknbpmgflpgaaGreatDoorNa
import Derived.Test.YtogknbpmgflpgaaGreatDoorShelf3
namespace Go.Proofs.YtogknbpmgflpgaaGreatDoor
open Go.RowKit
set_option linter.unusedVariables false
set_option linter.unusedSimpArgs false

theorem lab_find : ∀ c : Fin 10, ∀ s ∈ labL (c.val : Nat), (namesF.findIdx? fun x => decide (x = s)).map (· / 3) = some c.val := by decide +kernel
theorem lab_all : ∀ s ∈ namesF, s = ⟨#[]⟩ ∨ (List.range 10).any (fun (c : Nat) => (labL (c : Int)).any fun x => decide (x = s)) = true := by decide +kernel
theorem lab_ne : ∀ c : Fin 10, ∀ s ∈ labL (c.val : Nat), bl s ≠ [] := by decide +kernel
theorem ba_ext {a b : ByteArray} (h : bl a = bl b) : a = b := ByteArray.ext (Array.toList_inj.1 h)
theorem ref_named (l : List UInt8) : refNamed l = match namedM l with
    | some c => (c : Int)
    | none => -1 := by
  by_cases hex : ∃ c, c < 10 ∧ hasLab l c = true
  · -- the first such charset
    obtain ⟨c, hc, h⟩ := hex
    unfold hasLab at h
    rw [List.any_eq_true] at h
    obtain ⟨x, hx, he⟩ := h
    have he' : smallL l = bl x := by simpa using he
    have hxt : (⟨(smallL l).toArray⟩ : ByteArray) = x := by rw [he']
    have hne : l ≠ [] := by
      rintro rfl
      exact lab_ne ⟨c, hc⟩ x hx he'.symm
    have hn : namedM l = some c := by
      unfold namedM
      rw [if_neg hne, hxt]
      exact lab_find ⟨c, hc⟩ x hx
    have hr : refNamed l = c := by
      refine ref_hit l c hc (fun d hd => ?_) (by unfold hasLab; rw [List.any_eq_true]; exact ⟨x, hx, he⟩)
      cases hq : hasLab l d with
      | false => rfl
      | true =>
        exfalso
        unfold hasLab at hq
        rw [List.any_eq_true] at hq
        obtain ⟨y, hy, hey⟩ := hq
        have hey' : smallL l = bl y := by simpa using hey
        have hxy : x = y := ba_ext (he'.symm.trans hey')
        subst hxy
        have h1 := lab_find ⟨c, hc⟩ x hx
        have h2 := lab_find ⟨d, by omega⟩ x hy
        rw [h1] at h2
        simp only [Option.some.injEq] at h2
        omega
    rw [hn, hr]
  · have hno : ∀ d, d < 10 → hasLab l d = false := fun d hd => by
      cases h : hasLab l d with
      | false => rfl
      | true => exact absurd ⟨d, hd, h⟩ hex
    have hn : namedM l = none := by
      unfold namedM
      split
      · rfl
      · rename_i hne
        rw [Option.map_eq_none_iff, List.findIdx?_eq_none_iff]
        intro s hs
        simp only [decide_eq_false_iff_not]
        intro he
        rcases lab_all s hs with h | h
        · rw [h] at he
          have h5 := congrArg (fun z : ByteArray => (bl z).length) he
          simp only [smallL, List.length_map] at h5
          exact hne (List.eq_nil_of_length_eq_zero (by simpa [bl] using h5.symm))
        · rw [List.any_eq_true] at h
          obtain ⟨c, hc, h⟩ := h
          rw [List.any_eq_true] at h
          obtain ⟨x, hx, h⟩ := h
          have hxs : x = s := by simpa using h
          subst hxs
          have := hno c (by simpa using hc)
          unfold hasLab at this
          rw [List.any_eq_false] at this
          exact this x hx (by rw [he]; simp)
    rw [hn, ref_miss l hno]
theorem valid_scan : ∀ (f : Nat) (l : List UInt8) (at_ n : Nat), Lib.validGoD f l = (scanF f l at_ n).2.isNone := by
  intro f
  induction f with
  | zero => intro l at_ n; rfl
  | succ f ih =>
    intro l at_ n
    rw [Lib.validGoD, scanF]
    by_cases h : l = []
    · rw [if_pos h, if_pos h]; rfl
    · rw [if_neg h, if_neg h, Lib.decodeL_N]
      have hp := dec_pos l
      unfold badDec
      show (if (dec l).1 = 65533 ∧ (dec l).2 = 1 then false else Lib.validGoD f (l.drop (dec l).2)) = _
      by_cases hb : (dec l).1 = 65533 ∧ (dec l).2 = 1
      · rw [if_pos hb, if_pos (by rw [Bool.and_eq_true, decide_eq_true_eq, decide_eq_true_eq]; omega)]; rfl
      · rw [if_neg hb, if_neg (by rw [Bool.and_eq_true, decide_eq_true_eq, decide_eq_true_eq]; omega)]
        exact ih _ _ _
theorem valid_any (s : ByteArray) (w : World) (hT : TW w) (hs : s.size ≤ 9223372036854775807) :
    Calls Tryz.prog 65 #[.string s] w fun e w' => e = .returned (.bool (scanL (bl s)).2.isNone) ∧ Below w.heap.size w w' := by
  have k1 : ∀ w, TW w → Calls Tryz.prog 89 #[.string s] w fun e w' => e = .returned (.bool (scanL (bl s)).2.isNone) ∧ Below w.heap.size w w' := by
    intro w hT
    have h := Any.utf8_ValidString Tryz.laysValid s w hs hT.u8
    have e : Lib.validD s.data.toList = (scanL (bl s)).2.isNone := valid_scan _ _ _ _
    rw [e] at h
    exact h
  generalize (scanL (bl s)).2.isNone = r at *
  have K1 := Lib.hid k1
  clear k1
  go_enter Tryz.func65, Tryz.ntmps65
  go_wp2_with (go_at_call 89; refine (K1.out _ hT).mono ?_; rintro e w1 ⟨rfl, hb1⟩)
  go_ret
  exact ⟨rfl, hb1⟩
/-- the charset of bytes. -/
noncomputable def resM (b d : List UInt8) (fb : Int) (g : Bool) : Int :=
  if (scanL b).2.isNone = true then 7 else if 0 ≤ refNamed d then refNamed d
  else if g = true then (if 0 ≤ guess10M (fun c => scoreR c b) orderL then guess10M (fun c => scoreR c b) orderL else fb) else fb
set_option maxRecDepth 100000 in
set_option maxHeartbeats 4000000 in
theorem resolve_any (b d : ByteArray) (z fb bu : Int) (g : Bool) (w : World) (hT : TW w) (hb : b.size ≤ 1048576) (hd : d.size ≤ 1048576) :
    Calls Tryz.prog 58 #[.string b, .string d, .agg #[.int .i64 z, .int .i64 fb, .bool g, .int .i64 bu]] w fun e w' => e = .returned (.int .i64 (resM (bl b) (bl d) fb g)) ∧ Below w.heap.size w w' := by
  have hm : resM (bl b) (bl d) fb g = if (scanL (bl b)).2.isNone = true then 7 else if 0 ≤ refNamed (bl d) then refNamed (bl d)
    else if g = true then (if 0 ≤ guess10M (fun c => scoreR c (bl b)) orderL then guess10M (fun c => scoreR c (bl b)) orderL else fb) else fb := rfl
  obtain ⟨R, hR⟩ : ∃ R, R = resM (bl b) (bl d) fb g := ⟨_, rfl⟩
  rw [← hR] at hm ⊢
  have k1 := fun w hT => valid_any b w hT (by omega)
  have k2 := fun w => named_any d w (by omega)
  have k3 := fun w => order_any w
  have hg := (guess_eq (bl b) orderL).1
  have k4 : ∀ v w, TW w → Row w v 7 (ccells orderL) → Calls Tryz.prog 80 #[.string b, v] w fun e w' => e = .returned (.tuple #[.int .i64 (guessR (bl b) orderL).2.1, .bool (guessR (bl b) orderL).2.2]) ∧ Below w.heap.size w w' :=
    fun v w hT hr => guess_any b v orderL w hT hb hr (by decide)
  rw [hg] at k4
  simp only at k4
  have hrn := ref_named (bl d)
  generalize (scanL (bl b)).2.isNone = ok at *
  generalize guess10M (fun c => scoreR c (bl b)) orderL = G at *
  generalize refNamed (bl d) = N at *
  generalize namedM (bl d) = M at *
  unfold NamedPost at k2
  have hbA := (Below.refl w.heap.size w).alloc (Nat.le_refl _) (.cells #[.int .i64 z, .int .i64 fb, .bool g, .int .i64 bu] 26)
  have hTA := hT.bel hbA
  have l1 := Live.fresh w #[.int .i64 z, .int .i64 fb, .bool g, .int .i64 bu] 26 1 _ rfl
  have l2 := Live.fresh w #[.int .i64 z, .int .i64 fb, .bool g, .int .i64 bu] 26 2 _ rfl
  have K1 := Lib.hid k1
  have K2 := Lib.hid k2
  have K3 := Lib.hid k3
  have K4 := Lib.hid k4
  have HM := Lib.hid hm
  have HRN := Lib.hid hrn
  have HBA := Lib.hid hbA
  have HTA := Lib.hid hTA
  have L1 := Lib.hid l1
  have L2 := Lib.hid l2
  clear k1 k2 k3 k4 hm hrn hbA hTA l1 l2
  clear hg hR
  cases ok with
  | true =>
    have hm := HM.out
    rw [if_pos rfl] at hm
    subst hm
    clear HM
    go_enter Tryz.func58, Tryz.ntmps58
    go_wp2_with (go_at_call 65; refine (K1.out _ HTA.out).mono ?_; rintro e w1 ⟨rfl, hb1⟩)
    go_ret
    exact ⟨rfl, HBA.out.trans (hb1.mono HBA.out.size)⟩
  | false =>
    have hm := HM.out
    rw [if_neg (by decide)] at hm
    clear HM
    have hrn := HRN.out
    clear HRN
    cases M with
    | some c =>
      simp only at hrn
      subst hrn
      rw [if_pos (by omega)] at hm
      subst hm
      have K2' : Hid (∀ w, Calls Tryz.prog 83 #[.string d] w fun e w' => e = .returned (.tuple #[.int .i64 (c : Int), .bool true]) ∧ Below w.heap.size w w') := K2
      clear K2
      go_enter Tryz.func58, Tryz.ntmps58
      go_wp2_with (first
        | (go_at_call 65; refine (K1.out _ HTA.out).mono ?_; rintro e w1 ⟨rfl, hb1⟩)
        | (go_at_call 83; refine (K2'.out _).mono ?_; rintro e w2 ⟨rfl, hb2⟩))
      go_ret
      exact ⟨rfl, HBA.out.trans ((bt hb1 hb2).mono HBA.out.size)⟩
    | none =>
      simp only at hrn
      subst hrn
      rw [if_neg (by decide)] at hm
      have K2' : Hid (∀ w, Calls Tryz.prog 83 #[.string d] w fun e w' => e = .returned (.tuple #[.int .i64 0, .bool false]) ∧ Below w.heap.size w w') := K2
      clear K2
      cases g with
      | false =>
        rw [if_neg (by decide)] at hm
        subst hm
        go_enter Tryz.func58, Tryz.ntmps58
        go_wp2_with (first
          | (go_at_call 65; refine (K1.out _ HTA.out).mono ?_; rintro e w1 ⟨rfl, hb1⟩)
          | (go_at_call 83; refine (K2'.out _).mono ?_; rintro e w2 ⟨rfl, hb2⟩; have q1 := (L1.out.keep (bt hb1 hb2)).1; have q2 := (L2.out.keep (bt hb1 hb2)).1))
        go_ret
        exact ⟨rfl, HBA.out.trans ((bt hb1 hb2).mono HBA.out.size)⟩
      | true =>
        rw [if_pos rfl] at hm
        by_cases hG : 0 ≤ G
        · rw [if_pos hG] at hm
          subst hm
          have K4' : Hid (∀ v w, TW w → Row w v 7 (ccells orderL) → Calls Tryz.prog 80 #[.string b, v] w fun e w' => e = .returned (.tuple #[.int .i64 R, .bool true]) ∧ Below w.heap.size w w') := by
            have h := K4.out
            rw [if_pos hG, decide_eq_true hG] at h
            exact h
          clear K4 hG
          go_enter Tryz.func58, Tryz.ntmps58
          go_wp2_with (first
            | (go_at_call 65; refine (K1.out _ HTA.out).mono ?_; rintro e w1 ⟨rfl, hb1⟩)
            | (go_at_call 83; refine (K2'.out _).mono ?_; rintro e w2 ⟨rfl, hb2⟩; have q1 := (L1.out.keep (bt hb1 hb2)).1; have q2 := (L2.out.keep (bt hb1 hb2)).1)
            | (go_at_call 81; refine (K3.out _).mono ?_; rintro e w3 ⟨v, rfl, hrow, hb3⟩)
            | (go_at_call 80; refine (K4'.out _ _ (HTA.out.bel (bt (bt hb1 hb2) hb3)) hrow).mono ?_; rintro e w4 ⟨rfl, hb4⟩))
          go_ret
          exact ⟨rfl, HBA.out.trans ((bt (bt (bt hb1 hb2) hb3) hb4).mono HBA.out.size)⟩
        · rw [if_neg hG] at hm
          subst hm
          have K4' : Hid (∀ v w, TW w → Row w v 7 (ccells orderL) → Calls Tryz.prog 80 #[.string b, v] w fun e w' => e = .returned (.tuple #[.int .i64 0, .bool false]) ∧ Below w.heap.size w w') := by
            have h := K4.out
            rw [if_neg hG, decide_eq_false hG] at h
            exact h
          clear K4 hG
          go_enter Tryz.func58, Tryz.ntmps58
          go_wp2_with (first
            | (go_at_call 65; refine (K1.out _ HTA.out).mono ?_; rintro e w1 ⟨rfl, hb1⟩)
            | (go_at_call 83; refine (K2'.out _).mono ?_; rintro e w2 ⟨rfl, hb2⟩; have q1 := (L1.out.keep (bt hb1 hb2)).1; have q2 := (L2.out.keep (bt hb1 hb2)).1)
            | (go_at_call 81; refine (K3.out _).mono ?_; rintro e w3 ⟨v, rfl, hrow, hb3⟩)
            | (go_at_call 80; refine (K4'.out _ _ (HTA.out.bel (bt (bt hb1 hb2) hb3)) hrow).mono ?_; rintro e w4 ⟨rfl, hb4⟩; have s1 := (L1.out.keep (bt (bt (bt hb1 hb2) hb3) hb4)).1))
          go_ret
          exact ⟨rfl, HBA.out.trans ((bt (bt (bt hb1 hb2) hb3) hb4).mono HBA.out.size)⟩
end Go.Proofs.YtogknbpmgflpgaaGreatDoor
/- The reference's charset of any bytes (layer 10). -/
namespace Go.Proofs.YtogknbpmgflpgaaGreatDoor
open Go.RowKit
set_option linter.unusedVariables false
set_option linter.unusedSimpArgs false

set_option maxRecDepth 100000 in
set_option maxHeartbeats 4000000 in
theorem resolve10_any (b d : ByteArray) (fb : Int) (g : Bool) (w : World) (hb : b.size ≤ 1048576) (hd : d.size ≤ 1048576) :
    Calls Tryz.prog 94 #[.string b, .string d, .int .i64 fb, .bool g] w fun e w' => e = .returned (.int .i64 (resM (bl b) (bl d) fb g)) ∧ Below w.heap.size w w' := by
  have hm : resM (bl b) (bl d) fb g = if (scanL (bl b)).2.isNone = true then 7 else if 0 ≤ refNamed (bl d) then refNamed (bl d)
    else if g = true then (if 0 ≤ guess10M (fun c => scoreR c (bl b)) orderL then guess10M (fun c => scoreR c (bl b)) orderL else fb) else fb := rfl
  obtain ⟨R, hR⟩ : ∃ R, R = resM (bl b) (bl d) fb g := ⟨_, rfl⟩
  rw [← hR] at hm ⊢
  have k1 := fun w => refPoints_any b w (by omega)
  unfold RPts RPtsS at k1
  have k2 := fun w => refNamed_any d w (by omega)
  have k3 := fun w => order10_any w
  have k4 : ∀ v w, Row w v 7 (ccells orderL) → Calls Tryz.prog 123 #[.string b, v] w fun e w' => e = .returned (.int .i64 (guess10M (fun c => scoreR c (bl b)) orderL)) ∧ Below w.heap.size w w' :=
    fun v w hr => guess10_any b v orderL w hb hr (by decide)
  generalize guess10M (fun c => scoreR c (bl b)) orderL = G at *
  generalize refNamed (bl d) = N at *
  cases hs : (scanL (bl b)).2 with
  | none =>
    rw [hs] at k1 hm
    rw [Option.isNone_none, if_pos rfl] at hm
    subst hm
    simp only at k1
    have K1 := Lib.hid k1
    have K2 := Lib.hid k2
    have K3 := Lib.hid k3
    have K4 := Lib.hid k4
    clear k1 k2 k3 k4
    clear hs hR
    go_enter Tryz.func94, Tryz.ntmps94
    go_wp2_with (go_at_call 73; refine (K1.out _).mono ?_; rintro e w1 ⟨⟨v, rfl, hown⟩, hb1⟩)
    go_ret
    exact ⟨rfl, hb1⟩
  | some q =>
    rw [hs] at k1 hm
    rw [Option.isNone_some, if_neg (by decide)] at hm
    simp only at k1
    have hq0 : ¬ (q : Int) < 0 := by omega
    clear hs hR
    by_cases hN : 0 ≤ N
    · rw [if_pos hN] at hm
      subst hm
      have K1 := Lib.hid k1
      have K2 := Lib.hid k2
      have K3 := Lib.hid k3
      have K4 := Lib.hid k4
      clear k1 k2 k3 k4
      go_enter Tryz.func94, Tryz.ntmps94
      go_wp2_with (first
        | (go_at_call 73; refine (K1.out _).mono ?_; rintro e w1 ⟨rfl, hb1⟩)
        | (go_at_call 122; refine (K2.out _).mono ?_; rintro e w2 ⟨rfl, hb2⟩))
      go_ret
      exact ⟨rfl, bt hb1 hb2⟩
    · rw [if_neg hN] at hm
      cases g with
      | false =>
        rw [if_neg (by decide)] at hm
        subst hm
        have K1 := Lib.hid k1
        have K2 := Lib.hid k2
        have K3 := Lib.hid k3
        have K4 := Lib.hid k4
        clear k1 k2 k3 k4
        go_enter Tryz.func94, Tryz.ntmps94
        go_wp2_with (first
          | (go_at_call 73; refine (K1.out _).mono ?_; rintro e w1 ⟨rfl, hb1⟩)
          | (go_at_call 122; refine (K2.out _).mono ?_; rintro e w2 ⟨rfl, hb2⟩))
        go_ret
        exact ⟨rfl, bt hb1 hb2⟩
      | true =>
        rw [if_pos rfl] at hm
        have K1 := Lib.hid k1
        have K2 := Lib.hid k2
        have K3 := Lib.hid k3
        have K4 := Lib.hid k4
        clear k1 k2 k3 k4
        by_cases hG : 0 ≤ G
        · rw [if_pos hG] at hm
          subst hm
          go_enter Tryz.func94, Tryz.ntmps94
          go_wp2_with (first
            | (go_at_call 73; refine (K1.out _).mono ?_; rintro e w1 ⟨rfl, hb1⟩)
            | (go_at_call 122; refine (K2.out _).mono ?_; rintro e w2 ⟨rfl, hb2⟩)
            | (go_at_call 124; refine (K3.out _).mono ?_; rintro e w3 ⟨v, rfl, hrow, hb3⟩)
            | (go_at_call 123; refine (K4.out _ _ hrow).mono ?_; rintro e w4 ⟨rfl, hb4⟩))
          go_ret
          exact ⟨rfl, bt (bt (bt hb1 hb2) hb3) hb4⟩
        · rw [if_neg hG] at hm
          subst hm
          go_enter Tryz.func94, Tryz.ntmps94
          go_wp2_with (first
            | (go_at_call 73; refine (K1.out _).mono ?_; rintro e w1 ⟨rfl, hb1⟩)
            | (go_at_call 122; refine (K2.out _).mono ?_; rintro e w2 ⟨rfl, hb2⟩)
            | (go_at_call 124; refine (K3.out _).mono ?_; rintro e w3 ⟨v, rfl, hrow, hb3⟩)
            | (go_at_call 123; refine (K4.out _ _ hrow).mono ?_; rintro e w4 ⟨rfl, hb4⟩))
          go_ret
          exact ⟨rfl, bt (bt (bt hb1 hb2) hb3) hb4⟩
end Go.Proofs.YtogknbpmgflpgaaGreatDoor
