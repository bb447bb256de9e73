/- DetectSums holds: bytes that are texts in a charset of one byte a sign have together the score of both, or 3 less where a capital comes right behind a small letter. No condition. -/
import Derived.Test.YtbijjomknbnmfaaGreatDoorFr
import Derived.Test.YtbijjomknbnmfaaGreatDoorTie
import Derived.Test.YtbijjomknbnmfaaGreatDoorCards
import Derived.Test.YtbijjomknbnmfaaGreatDoorKz
import Derived.Test.YtbijjomknbnmfaaGreatDoorKDetectSums
import Derived.Test.YtbijjomknbnmfaaGreatDoorA10
import Derived.Test.YtbijjomknbnmfaaGreatDoorPu
namespace Go.Proofs.YtbijjomknbnmfaaGreatDoor.detectSums
open Go.ChangeShapes Go.WideShapes Go.ChangeAt Go.RowKit Go.ChangeMaps
set_option linter.unusedVariables false
set_option linter.unusedSimpArgs false

/-- a byte's sign. -/
def sgn (KG : List Bool × List Int) (b : UInt8) : Int := KG.2.getD b.toNat 0
def goodB (KG : List Bool × List Int) (n : Nat) : Bool := KG.1.getD n false && decide (0 ≤ KG.2.getD n 0 ∧ KG.2.getD n 0 ≤ 1114111 ∧ (KG.2.getD n 0 < 55296 ∨ 57343 < KG.2.getD n 0))
theorem good_all : (List.range 4).all (fun (c : Nat) => (fun KG => (List.range 256).all (goodB KG)) (kgM (setS (c : Int)))) = true := by decide +kernel
theorem good_at (c : Int) (h0 : 0 ≤ c) (h1 : c ≤ 3) (b : UInt8) : goodB (kgM (setS c)) b.toNat = true := by
  obtain ⟨n, rfl⟩ := Int.eq_ofNat_of_zero_le h0
  have h := List.all_eq_true.1 good_all n (by simp; omega)
  exact List.all_eq_true.1 h b.toNat (by have := b.toNat_lt; simp; omega)
theorem tok_good (KG : List Bool × List Int) (hG : ∀ b : UInt8, goodB KG b.toNat = true) (b : UInt8) (l : List UInt8) : tokS (sgS KG) (b :: l) = some (encR (sgn KG b), 1) ∧ Scal (sgn KG b) := by
  have h := hG b
  unfold goodB at h
  rw [Bool.and_eq_true, decide_eq_true_eq] at h
  refine ⟨?_, h.2⟩
  simp only [tokS, sgS, if_pos h.1]
  rfl
theorem run_good (KG : List Bool × List Int) (hG : ∀ b : UInt8, goodB KG b.toNat = true) : ∀ (l : List UInt8) (f n : Nat) (acc : List UInt8), l.length ≤ f → runT (tokS (sgS KG)) f l n acc = (acc ++ encL (l.map (sgn KG)), none) := by
  intro l
  induction l with
  | nil => intro f n acc _; rw [runT_nil]; simp [encL]
  | cons b l ih =>
    intro f n acc hf
    rw [List.length_cons] at hf
    obtain ⟨f, rfl⟩ : ∃ g, f = g + 1 := ⟨f - 1, by omega⟩
    rw [runT_some f _ n acc _ _ (by simp) (tok_good KG hG b l).1]
    simp only [List.drop_succ_cons, List.drop_zero]
    rw [ih f _ _ (by omega), List.map_cons, encL_cons, List.append_assoc]
theorem dec_good (c : Int) (h0 : 0 ≤ c) (h1 : c ≤ 3) (l : List UInt8) : decT (tokC c) l = (encL (l.map (sgn (kgM (setS c)))), none) := by
  rw [tokC_lo c h1]
  unfold decT
  rw [run_good _ (good_at c h0 h1) l _ _ _ (Nat.le_refl _)]
  simp
theorem score_of (c : Int) (h0 : 0 ≤ c) (h1 : c ≤ 3) (l : List UInt8) : scoreR c l = some (scoreF c false (l.map (sgn (kgM (setS c)))) 0) := by
  unfold scoreR
  rw [if_pos ⟨h0, by omega⟩, dec_good c h0 h1 l]
  simp only [scoreM]
  rw [pts_encL']
  intro p hp
  rw [List.mem_map] at hp
  obtain ⟨b, _, rfl⟩ := hp
  exact (tok_good _ (good_at c h0 h1) b []).2
/-- is the last sign a small letter? -/
def lastS : Bool → List Int → Bool
  | s, [] => s
  | _, p :: l => lastS (letterB p) l
theorem score_app (c : Int) : ∀ (l m : List Int) (s : Bool) (n : Int), scoreF c s (l ++ m) n = scoreF c (lastS s l) m (scoreF c s l n) := by
  intro l
  induction l with
  | nil => intro m s n; rfl
  | cons p l ih => intro m s n; rw [List.cons_append, scoreF_cons, scoreF_cons, ih]; rfl
theorem score_add (c : Int) : ∀ (l : List Int) (s : Bool) (n k : Int), scoreF c s l (n + k) = scoreF c s l n + k := by
  intro l
  induction l with
  | nil => intro s n k; rfl
  | cons p l ih =>
    intro s n k
    rw [scoreF_cons, scoreF_cons, ← ih]
    congr 1
    omega
theorem score_bd (c : Int) : ∀ (l : List Int) (s : Bool) (n : Int), n - 11 * (l.length : Int) ≤ scoreF c s l n ∧ scoreF c s l n ≤ n + 6 * (l.length : Int) := by
  intro l
  induction l with
  | nil => intro s n; simp [scoreF]
  | cons p l ih =>
    intro s n
    have hw := weight_bd c p
    rw [scoreF_cons, List.length_cons]
    have hx : 0 ≤ (if (s && capitalB p) = true then (3 : Int) else 0) ∧ (if (s && capitalB p) = true then (3 : Int) else 0) ≤ 3 := by split <;> omega
    generalize (if (s && capitalB p) = true then (3 : Int) else 0) = x at *
    have h := ih (letterB p) (n + weightM c p - x)
    push_cast
    omega
theorem score_true (c : Int) (l : List Int) (n : Int) : scoreF c true l n = scoreF c false l n ∨ (scoreF c true l n = scoreF c false l n - 3 ∧ l ≠ []) := by
  cases l with
  | nil => exact .inl rfl
  | cons p l =>
    rw [scoreF_cons, scoreF_cons]
    cases capitalB p with
    | false => exact .inl (by simp)
    | true =>
      refine .inr ⟨?_, by simp⟩
      have := score_add c l (letterB p) (n + weightM c p) (-3)
      simp only [Bool.and_self, Bool.false_and, if_true, Bool.false_eq_true, if_false]
      rw [show n + weightM c p - 3 = n + weightM c p + -3 from by omega, this, show n + weightM c p - 0 = n + weightM c p from by omega]
      omega
theorem sum_of (c : Int) (l m : List Int) : scoreF c false (l ++ m) 0 = scoreF c false l 0 + scoreF c false m 0 ∨ (scoreF c false (l ++ m) 0 = scoreF c false l 0 + scoreF c false m 0 - 3 ∧ l ≠ [] ∧ m ≠ []) := by
  have h := score_add c m
  rw [score_app]
  have e : ∀ s, scoreF c s m (scoreF c false l 0) = scoreF c s m 0 + scoreF c false l 0 := fun s => by
    have := h s 0 (scoreF c false l 0); rw [Int.zero_add] at this; exact this
  rw [e]
  cases hl : lastS false l with
  | false => exact .inl (by omega)
  | true =>
    rcases score_true c m 0 with h1 | ⟨h1, h2⟩
    · exact .inl (by omega)
    · refine .inr ⟨by omega, ?_, h2⟩
      rintro rfl
      cases hl
set_option maxHeartbeats 4000000 in
theorem walk_out (c : Int) (a b : ByteArray) (h : c < 0 ∨ 3 < c ∨ 100 < a.size ∨ 100 < b.size) (w : World) (hT : TW w) :
    Calls Tryz.prog 8 #[.int .i64 c, .string a, .string b] w fun e w' => e = .returned (.bool true) ∧ Below w.heap.size w w' := by
  have KA := Lib.hid awake10in_any
  by_cases h1 : c < 0
  · clear h
    go_enter Tryz.func8, Tryz.ntmps8
    go_wp2_with (go_at_call 26; refine (KA.out _ hT).mono ?_; rintro e w1 ⟨rfl, hb1⟩)
    go_ret
    exact ⟨rfl, hb1⟩
  · by_cases h2 : 3 < c
    · clear h
      go_enter Tryz.func8, Tryz.ntmps8
      go_wp2_with (go_at_call 26; refine (KA.out _ hT).mono ?_; rintro e w1 ⟨rfl, hb1⟩)
      go_ret
      exact ⟨rfl, hb1⟩
    · by_cases h3 : 100 < a.size
      · clear h
        go_enter Tryz.func8, Tryz.ntmps8
        go_wp2_with (go_at_call 26; refine (KA.out _ hT).mono ?_; rintro e w1 ⟨rfl, hb1⟩)
        go_ret
        exact ⟨rfl, hb1⟩
      · have h4 : 100 < b.size := by omega
        clear h
        go_enter Tryz.func8, Tryz.ntmps8
        go_wp2_with (go_at_call 26; refine (KA.out _ hT).mono ?_; rintro e w1 ⟨rfl, hb1⟩)
        go_ret
        exact ⟨rfl, hb1⟩
theorem ne_str (s : ByteArray) (h : (bl s) ≠ []) : s.toList.isEmpty = false := by rw [ByteArray.toList_eq]; simpa using h
set_option maxHeartbeats 4000000 in
theorem walk_in (c : Int) (a b : ByteArray) (h0 : 0 ≤ c) (h1 : c ≤ 3) (h2 : a.size ≤ 100) (h3 : b.size ≤ 100) (w : World) (hT : TW w) :
    Calls Tryz.prog 8 #[.int .i64 c, .string a, .string b] w fun e w' => e = .returned (.bool true) ∧ Below w.heap.size w w' := by
  have KA := Lib.hid awake10in_any
  have happ : bl (a ++ b) = bl a ++ bl b := by simp [bl]
  have hab : (a ++ b).size ≤ 1048576 := by rw [← bl_length, happ, List.length_append, bl_length, bl_length]; omega
  have k1 := fun w hT => score_any c a w hT (by omega)
  have k2 := fun w hT => score_any c b w hT (by omega)
  have k3 := fun w hT => score_any c (a ++ b) w hT hab
  rw [score_of c h0 h1] at k1 k2 k3
  rw [happ, List.map_append] at k3
  have hs := sum_of c ((bl a).map (sgn (kgM (setS c)))) ((bl b).map (sgn (kgM (setS c))))
  have b1 := score_bd c ((bl a).map (sgn (kgM (setS c)))) false 0
  have b2 := score_bd c ((bl b).map (sgn (kgM (setS c)))) false 0
  rw [List.length_map, bl_length] at b1 b2
  have na : (bl a).map (sgn (kgM (setS c))) ≠ [] → bl a ≠ [] := fun h e => h (by rw [e]; rfl)
  have nb : (bl b).map (sgn (kgM (setS c))) ≠ [] → bl b ≠ [] := fun h e => h (by rw [e]; rfl)
  generalize scoreF c false ((bl a).map (sgn (kgM (setS c))) ++ (bl b).map (sgn (kgM (setS c)))) 0 = z at *
  generalize scoreF c false ((bl a).map (sgn (kgM (setS c)))) 0 = x at *
  generalize scoreF c false ((bl b).map (sgn (kgM (setS c)))) 0 = y at *
  have k1 : ∀ w, TW w → Calls Tryz.prog 27 #[.int .i64 c, .string a] w fun e w' => e = .returned (.tuple #[.int .i64 x, .bool true]) ∧ Below w.heap.size w w' := fun w hT => k1 w hT
  have k2 : ∀ w, TW w → Calls Tryz.prog 27 #[.int .i64 c, .string b] w fun e w' => e = .returned (.tuple #[.int .i64 y, .bool true]) ∧ Below w.heap.size w w' := fun w hT => k2 w hT
  have k3 : ∀ w, TW w → Calls Tryz.prog 27 #[.int .i64 c, .string (a ++ b)] w fun e w' => e = .returned (.tuple #[.int .i64 z, .bool true]) ∧ Below w.heap.size w w' := fun w hT => k3 w hT
  have hw1 : IntKind.i64.wrap (x + y) = x + y := wi64 _ (by omega) (by omega)
  have hw2 : IntKind.i64.wrap (x + y - 3) = x + y - 3 := wi64 _ (by omega) (by omega)
  obtain ⟨b1, b1'⟩ := b1
  obtain ⟨b2, b2'⟩ := b2
  rcases hs with hs | ⟨hs, hx, hy⟩
  · have hs' := hs
    have K1 := Lib.hid k1
    have K2 := Lib.hid k2
    have K3 := Lib.hid k3
    clear k1 k2 k3
    clear hs'
    subst hs
    clear na nb happ
    go_enter Tryz.func8, Tryz.ntmps8
    go_wp2_with (first
      | (go_at_call 27; (with_reducible refine (K1.out _ hT).mono ?_); rintro e w1 ⟨rfl, hb1⟩)
      | (go_at_call 27; (with_reducible refine (K2.out _ (hT.bel hb1)).mono ?_); rintro e w2 ⟨rfl, hb2⟩)
      | (go_at_call 27; (with_reducible refine (K3.out _ (hT.bel (bt hb1 hb2))).mono ?_); rintro e w3 ⟨rfl, hb3⟩)
      | (go_at_call 26; refine (KA.out _ (hT.bel (bt (bt hb1 hb2) hb3))).mono ?_; rintro e w4 ⟨rfl, hb4⟩))
    go_ret
    exact ⟨rfl, bt (bt (bt hb1 hb2) hb3) hb4⟩
  · have ea := ne_str a (na hx)
    have eb := ne_str b (nb hy)
    have hne : ¬ x + y - 3 = x + y := by omega
    have K1 := Lib.hid k1
    have K2 := Lib.hid k2
    have K3 := Lib.hid k3
    clear k1 k2 k3
    subst hs
    clear na nb happ hx hy
    go_enter Tryz.func8, Tryz.ntmps8
    go_wp2_with (first
      | (go_at_call 27; (with_reducible refine (K1.out _ hT).mono ?_); rintro e w1 ⟨rfl, hb1⟩)
      | (go_at_call 27; (with_reducible refine (K2.out _ (hT.bel hb1)).mono ?_); rintro e w2 ⟨rfl, hb2⟩)
      | (go_at_call 27; (with_reducible refine (K3.out _ (hT.bel (bt hb1 hb2))).mono ?_); rintro e w3 ⟨rfl, hb3⟩)
      | (go_at_call 26; refine (KA.out _ (hT.bel (bt (bt hb1 hb2) hb3))).mono ?_; rintro e w4 ⟨rfl, hb4⟩))
    go_ret
    exact ⟨rfl, bt (bt (bt hb1 hb2) hb3) hb4⟩
theorem walk (a0 : Int) (a1 a2 : ByteArray) (w0 : (Lit.int .i64 a0).wf = true) (w1 : a1.size ≤ maxLen) (w2 : a2.size ≤ maxLen) (w : World) (hT : TW w) :
    Calls Tryz.prog 8 #[.int .i64 a0, .string a1, .string a2] w fun e w' => e = .returned (.bool true) ∧ Below w.heap.size w w' := by
  by_cases h : 0 ≤ a0 ∧ a0 ≤ 3 ∧ a1.size ≤ 100 ∧ a2.size ≤ 100
  · exact walk_in a0 a1 a2 h.1 h.2.1 h.2.2.1 h.2.2.2 w hT
  · exact walk_out a0 a1 a2 (by omega) w hT

set_option maxRecDepth 100000 in
theorem lifted (os : Os) (started : os.Started) (H : Type) (enc : TypeId × Value → H) :
    ReturnsInHanded {} Tryz.checked os 8 .any (fun w args => (Rows.detectSumsSpec.pre enc Tryz.prog Tryz.f8 Rows.detectSumsRow.domain false w args ∧ laidMetH Tryz.prog laid3 w) ∧ sizedMet enc Tryz.prog Tryz.f8 (OpenSpec.ofChange Rows.detectSumsSpec) false w args) (Rows.detectSumsSpec.post enc Tryz.prog Tryz.f8 false true false false) := by
  refine handed_laid_shaped (C := Tryz.checked) (X := fun w => laidMetH Tryz.prog laid3 w) (fun _ _ hh h => h.of_heap hh) own started (by kernel_rfl) Tryz.func8
    (ChangeSpec.witness_shaped (enc := enc) (C := Tryz.checked) (os := os) (X := fun w _ => laidMetH Tryz.prog laid3 w) false (World.laidAll Tryz.prog os laid3) #[.int .i64 0, .string ByteArray.empty, .string ByteArray.empty] 8 (World.laidAll_os _ _ _) (laid_shaped os _) (by kernel_rfl) (by kernel_rfl) (by kernel_rfl) (laid_met os _)) ?_
  intro W base args ds gs before hval0 hW hL hsh
  have hT := tw_of_laid hL hsh
  have hval : ∀ (j : Nat) t v, Tryz.f8.params[j]? = some t → args[j]? = some v → Value.okWide Tryz.prog W .any base t v := hval0
  have hW' := hW
  obtain ⟨p, q, hA0, hV, rfl, hfz, hnd⟩ := hW
  have hA : DataW.TrodAll enc Tryz.prog W 0 (fun _ => true) true Tryz.f8.params.toList args.toList ds p := hA0
  rw [Tryz.params8] at hA hval
  obtain ⟨v0, vs0, d0, ds0, p0, q0, hargs, rfl, rfl, h0, r0⟩ := trodAll_cons hA
  obtain ⟨v1, vs1, d1, ds1, p1, q1, rfl, rfl, rfl, h1, r1⟩ := trodAll_cons r0
  obtain ⟨v2, vs2, d2, ds2, p2, q2, rfl, rfl, rfl, h2, r2⟩ := trodAll_cons r1
  obtain ⟨rfl, rfl, rfl⟩ := trodAll_nil r2
  obtain rfl : args = #[v0, v1, v2] := by cases args; simp_all
  obtain ⟨rfl, rfl⟩ := trodVars_none hV
  obtain ⟨a0, rfl, rfl, rfl, w0⟩ := open_int Tryz.underlying3 (hval 0 3 v0 rfl rfl) h0
  obtain ⟨a1, rfl, rfl, rfl, w1⟩ := open_string Tryz.underlying9 (hval 1 9 v1 rfl rfl) h1
  obtain ⟨a2, rfl, rfl, rfl, w2⟩ := open_string Tryz.underlying9 (hval 2 9 v2 rfl rfl) h2
  clear hA0 hval0
  simp only [List.append_nil] at hW'
  refine (walk a0 a1 a2 w0 w1 w2 W hT).mono fun e W' ⟨he, hg⟩ => ?_
  subst he
  exact ⟨_, rfl, post_below (pa := []) (pv := []) hW' (trodAll_cons_mk (shut_bool Tryz.underlying4 _) trodAll_mk0) (trodAll_cons_mk (shut_int Tryz.underlying3 w0) (trodAll_cons_mk (shut_string Tryz.underlying9 w1) (trodAll_cons_mk (shut_string Tryz.underlying9 w2) trodAll_mk0))) rfl hg⟩

theorem over : Rows.detectSumsRow.holds Tryz.pinned (OpenSpec.ofChange Rows.detectSumsSpec) :=
  OpenClaim.holds_of_wide 8 Tryz.f8 rfl rfl rfl rfl rfl rfl rfl ⟨rfl, rfl, rfl, rfl, rfl⟩ rfl rfl rfl rfl rfl k_named Tryz.func8 k_joined (of_decide_eq_true (by kernel_rfl)) k_wrap
    (fun os started H enc _ => lifted os started H enc)

/-- THE STATEMENT: the tied card -/
theorem proved : Rows.DetectSumsCardSaid :=
  Claim7.holds_tied_plain_at .later [] [.data, .data, .pinned] true Rows.detectSumsCard.stood.harness Rows.detectSumsCard.stood.looks over (fun _ h => by cases h) k_wf (fun _ h => by cases h) detectSums_row_tie rfl ⟨rfl, rfl⟩ k_main rfl
    (fun f fn hf hfn => by
      obtain rfl : f = 8 := Option.some.inj (k_named.symm.trans hf) |>.symm
      obtain rfl : fn = Tryz.f8 := (Option.some.inj (Tryz.func8.symm.trans hfn)).symm
      exact ⟨k_looks, fun j t ht => by
        rw [Tryz.params8] at ht
        have hm : t ∈ [3, 9, 9] := by simpa using Array.mem_of_getElem? ht
        exact (show Tryz.prog.wantsStandIn t = false by simpa using List.all_eq_true.1 k_stand t hm)⟩)
    k_goes
#print axioms proved
end Go.Proofs.YtbijjomknbnmfaaGreatDoor.detectSums
