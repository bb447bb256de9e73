/- DetectMarks holds: which mark stands ahead of any bytes, and how many bytes it has, are the document's. No condition. -/
import Derived.Test.YtbijjomknbnmfaaGreatDoorFr
import Derived.Test.YtbijjomknbnmfaaGreatDoorTie
import Derived.Test.YtbijjomknbnmfaaGreatDoorCards
import Derived.Test.YtbijjomknbnmfaaGreatDoorKz
import Derived.Test.YtbijjomknbnmfaaGreatDoorKDetectMarks
import Derived.Test.YtbijjomknbnmfaaGreatDoorA10
namespace Go.Proofs.YtbijjomknbnmfaaGreatDoor.detectMarks
open Go.ChangeShapes Go.WideShapes Go.ChangeAt Go.RowKit Go.ChangeMaps
set_option linter.unusedVariables false
set_option linter.unusedSimpArgs false

def markM (l : List UInt8) : Int × Int := if Lib.hasPrefix l [239, 187, 191] = true then (7, 3) else if Lib.hasPrefix l [255, 254] = true then (8, 2) else if Lib.hasPrefix l [254, 255] = true then (9, 2) else (0, 0)
set_option maxRecDepth 100000 in
set_option maxHeartbeats 4000000 in
theorem mark_any (b : ByteArray) (w : World) : Calls Tryz.prog 33 #[.string b] w fun e w' => e = .returned (.tuple #[.int .i64 (markM (bl b)).1, .int .i64 (markM (bl b)).2]) ∧ w = w' := by
  have k1 : ∀ w, Calls Tryz.prog 60 #[.string b, .string ⟨#[239, 187, 191]⟩] w fun e w' => e = .returned (.bool (Lib.hasPrefix (bl b) [239, 187, 191])) ∧ w' = w := fun w => Tryz.strings_HasPrefix b ⟨#[239, 187, 191]⟩ w
  have k2 : ∀ w, Calls Tryz.prog 60 #[.string b, .string ⟨#[255, 254]⟩] w fun e w' => e = .returned (.bool (Lib.hasPrefix (bl b) [255, 254])) ∧ w' = w := fun w => Tryz.strings_HasPrefix b ⟨#[255, 254]⟩ w
  have k3 : ∀ w, Calls Tryz.prog 60 #[.string b, .string ⟨#[254, 255]⟩] w fun e w' => e = .returned (.bool (Lib.hasPrefix (bl b) [254, 255])) ∧ w' = w := fun w => Tryz.strings_HasPrefix b ⟨#[254, 255]⟩ w
  unfold markM
  generalize Lib.hasPrefix (bl b) [239, 187, 191] = a1 at *
  generalize Lib.hasPrefix (bl b) [255, 254] = a2 at *
  generalize Lib.hasPrefix (bl b) [254, 255] = a3 at *
  have K1 := Lib.hid k1
  have K2 := Lib.hid k2
  have K3 := Lib.hid k3
  clear k1 k2 k3
  cases a1 <;> cases a2 <;> cases a3
  all_goals (
    go_enter Tryz.func33, Tryz.ntmps33
    go_wp2_with (first
      | (go_at_call 60; (with_reducible refine (K1.out _).mono ?_); rintro e w1 ⟨rfl, rfl⟩)
      | (go_at_call 60; (with_reducible refine (K2.out _).mono ?_); rintro e w1 ⟨rfl, rfl⟩)
      | (go_at_call 60; (with_reducible refine (K3.out _).mono ?_); rintro e w1 ⟨rfl, rfl⟩))
    go_ret2
    exact ⟨rfl, rfl⟩)
theorem mark_short (l : List UInt8) (h : l.length < 2) : markM l = (0, 0) := by
  match l, h with
  | [], _ => rfl
  | [x], _ => simp [markM, Lib.hasPrefix]
  | x :: y :: r, h => simp at h; omega
theorem mark_two (x y : UInt8) (r : List UInt8) : markM (x :: y :: r) = if x = 239 ∧ y = 187 ∧ r.head? = some 191 then (7, 3) else if x = 255 ∧ y = 254 then (8, 2) else if x = 254 ∧ y = 255 then (9, 2) else (0, 0) := by
  unfold markM Lib.hasPrefix
  cases r with
  | nil => simp [Bool.and_eq_true, @eq_comm UInt8 239 x, @eq_comm UInt8 255 x, @eq_comm UInt8 254 x, @eq_comm UInt8 187 y, @eq_comm UInt8 255 y, @eq_comm UInt8 254 y]
  | cons z r => simp [Bool.and_eq_true, @eq_comm UInt8 239 x, @eq_comm UInt8 255 x, @eq_comm UInt8 254 x, @eq_comm UInt8 187 y, @eq_comm UInt8 255 y, @eq_comm UInt8 254 y, @eq_comm UInt8 191 z]
set_option maxRecDepth 100000 in
set_option maxHeartbeats 8000000 in
theorem refMark_any (b : ByteArray) (w : World) : Calls Tryz.prog 34 #[.string b] w fun e w' => e = .returned (.tuple #[.int .i64 (markM (bl b)).1, .int .i64 (markM (bl b)).2]) ∧ w = w' := by
  have hL := bl_length b
  by_cases h2 : b.size < 2
  · rw [mark_short (bl b) (by omega)]
    clear hL
    go_enter Tryz.func34, Tryz.ntmps34
    go_wp2
    all_goals (go_ret2; exact ⟨rfl, rfl⟩)
  · obtain ⟨x, y, r, hl⟩ : ∃ x y r, bl b = x :: y :: r := by
      match hb : bl b with
      | [] => rw [hb] at hL; simp at hL; omega
      | [x] => rw [hb] at hL; simp at hL; omega
      | x :: y :: r => exact ⟨x, y, r, rfl⟩
    have X : ∀ h, b[0]'h = x := atB_of b 0 x (by rw [hl]; rfl)
    have Y : ∀ h, b[1]'h = y := atB_of b 1 y (by rw [hl]; rfl)
    have s0 : 0 < b.size := by omega
    have s1 : 1 < b.size := by omega
    have hxl := x.toNat_lt
    have hyl := y.toNat_lt
    have nx : ∀ n : Nat, n < 256 → (x = UInt8.ofNat n ↔ x.toNat = n) := fun n hn => by rw [← UInt8.toNat_inj, UInt8.toNat_ofNat']; simp [Nat.mod_eq_of_lt hn]
    have ny : ∀ n : Nat, n < 256 → (y = UInt8.ofNat n ↔ y.toNat = n) := fun n hn => by rw [← UInt8.toNat_inj, UInt8.toNat_ofNat']; simp [Nat.mod_eq_of_lt hn]
    have ex1 : (x = 239 ↔ x.toNat = 239) := nx 239 (by decide)
    have ex2 : (x = 255 ↔ x.toNat = 255) := nx 255 (by decide)
    have ex3 : (x = 254 ↔ x.toNat = 254) := nx 254 (by decide)
    have ey1 : (y = 187 ↔ y.toNat = 187) := ny 187 (by decide)
    have ey2 : (y = 254 ↔ y.toNat = 254) := ny 254 (by decide)
    have ey3 : (y = 255 ↔ y.toNat = 255) := ny 255 (by decide)
    clear nx ny
    by_cases x1 : x = 239
    · subst x1
      by_cases h3 : b.size < 3
      · have hr : r = [] := by
          cases r with
          | nil => rfl
          | cons z r => rw [hl] at hL; simp at hL; omega
        subst hr
        have hm : markM (bl b) = (0, 0) := by rw [hl, mark_two]; simp
        have HM := Lib.hid hm
        have HL := Lib.hid hl
        have EX1 := Lib.hid ex1
        have EX2 := Lib.hid ex2
        have EX3 := Lib.hid ex3
        have EY1 := Lib.hid ey1
        have EY2 := Lib.hid ey2
        have EY3 := Lib.hid ey3
        have HLL := Lib.hid hL
        clear hm hl ex1 ex2 ex3 ey1 ey2 ey3 hL
        rw [HM.out]
        go_enter Tryz.func34, Tryz.ntmps34
        go_wp2
        all_goals (go_ret2; exact ⟨rfl, rfl⟩)
      · obtain ⟨z, r, rfl⟩ : ∃ z q, r = z :: q := by
          cases r with
          | nil => rw [hl] at hL; simp at hL; omega
          | cons z r => exact ⟨z, r, rfl⟩
        have Z : ∀ h, b[2]'h = z := atB_of b 2 z (by rw [hl]; rfl)
        have s2 : 2 < b.size := by omega
        have hzl := z.toNat_lt
        have ez1 : (z = 191 ↔ z.toNat = 191) := by rw [← UInt8.toNat_inj]; rfl
        by_cases y1 : y = 187
        · subst y1
          by_cases z1 : z = 191
          · subst z1
            have hm : markM (bl b) = (7, 3) := by rw [hl, mark_two]; simp
            have HM := Lib.hid hm
            have HL := Lib.hid hl
            have EX1 := Lib.hid ex1
            have EX2 := Lib.hid ex2
            have EX3 := Lib.hid ex3
            have EY1 := Lib.hid ey1
            have EY2 := Lib.hid ey2
            have EY3 := Lib.hid ey3
            have EZ1 := Lib.hid ez1
            have HLL := Lib.hid hL
            clear hm hl ex1 ex2 ex3 ey1 ey2 ey3 ez1 hL
            rw [HM.out]
            go_enter Tryz.func34, Tryz.ntmps34
            go_wp2
            all_goals (go_ret2; exact ⟨rfl, rfl⟩)
          · have hm : markM (bl b) = (0, 0) := by rw [hl, mark_two]; simp [z1]
            have z2 : ¬ (z.toNat : Int) = 191 := fun h => z1 (ez1.2 (by omega))
            have HM := Lib.hid hm
            have HL := Lib.hid hl
            have EX1 := Lib.hid ex1
            have EX2 := Lib.hid ex2
            have EX3 := Lib.hid ex3
            have EY1 := Lib.hid ey1
            have EY2 := Lib.hid ey2
            have EY3 := Lib.hid ey3
            have EZ1 := Lib.hid ez1
            have Z1 := Lib.hid z1
            have HLL := Lib.hid hL
            clear hm hl ex1 ex2 ex3 ey1 ey2 ey3 ez1 z1 hL
            rw [HM.out]
            go_enter Tryz.func34, Tryz.ntmps34
            go_wp2
            all_goals (go_ret2; exact ⟨rfl, rfl⟩)
        · have hm : markM (bl b) = (0, 0) := by rw [hl, mark_two]; simp [y1]
          have y2 : ¬ (y.toNat : Int) = 187 := fun h => y1 (ey1.2 (by omega))
          have HM := Lib.hid hm
          have HL := Lib.hid hl
          have EX1 := Lib.hid ex1
          have EX2 := Lib.hid ex2
          have EX3 := Lib.hid ex3
          have EY1 := Lib.hid ey1
          have EY2 := Lib.hid ey2
          have EY3 := Lib.hid ey3
          have EZ1 := Lib.hid ez1
          have Y1 := Lib.hid y1
          have HLL := Lib.hid hL
          clear hm hl ex1 ex2 ex3 ey1 ey2 ey3 ez1 y1 hL
          rw [HM.out]
          go_enter Tryz.func34, Tryz.ntmps34
          go_wp2
          all_goals (go_ret2; exact ⟨rfl, rfl⟩)
    · have x2 : ¬ (x.toNat : Int) = 239 := fun h => x1 (ex1.2 (by omega))
      by_cases xa : x = 255
      · subst xa
        by_cases y1 : y = 254
        · subst y1
          have hm : markM (bl b) = (8, 2) := by rw [hl, mark_two]; simp
          have HM := Lib.hid hm
          have HL := Lib.hid hl
          have EX1 := Lib.hid ex1
          have EX2 := Lib.hid ex2
          have EX3 := Lib.hid ex3
          have EY1 := Lib.hid ey1
          have EY2 := Lib.hid ey2
          have EY3 := Lib.hid ey3
          have X1 := Lib.hid x1
          have HLL := Lib.hid hL
          clear hm hl ex1 ex2 ex3 ey1 ey2 ey3 x1 hL
          rw [HM.out]
          go_enter Tryz.func34, Tryz.ntmps34
          go_wp2
          all_goals (go_ret2; exact ⟨rfl, rfl⟩)
        · have hm : markM (bl b) = (0, 0) := by rw [hl, mark_two]; simp [y1]
          have y2 : ¬ (y.toNat : Int) = 254 := fun h => y1 (ey2.2 (by omega))
          have HM := Lib.hid hm
          have HL := Lib.hid hl
          have EX1 := Lib.hid ex1
          have EX2 := Lib.hid ex2
          have EX3 := Lib.hid ex3
          have EY1 := Lib.hid ey1
          have EY2 := Lib.hid ey2
          have EY3 := Lib.hid ey3
          have X1 := Lib.hid x1
          have Y1 := Lib.hid y1
          have HLL := Lib.hid hL
          clear hm hl ex1 ex2 ex3 ey1 ey2 ey3 x1 y1 hL
          rw [HM.out]
          go_enter Tryz.func34, Tryz.ntmps34
          go_wp2
          all_goals (go_ret2; exact ⟨rfl, rfl⟩)
      · have x3 : ¬ (x.toNat : Int) = 255 := fun h => xa (ex2.2 (by omega))
        by_cases xb : x = 254
        · subst xb
          by_cases y1 : y = 255
          · subst y1
            have hm : markM (bl b) = (9, 2) := by rw [hl, mark_two]; simp
            have HM := Lib.hid hm
            have HL := Lib.hid hl
            have EX1 := Lib.hid ex1
            have EX2 := Lib.hid ex2
            have EX3 := Lib.hid ex3
            have EY1 := Lib.hid ey1
            have EY2 := Lib.hid ey2
            have EY3 := Lib.hid ey3
            have X1 := Lib.hid x1
            have XA := Lib.hid xa
            have HLL := Lib.hid hL
            clear hm hl ex1 ex2 ex3 ey1 ey2 ey3 x1 xa hL
            rw [HM.out]
            go_enter Tryz.func34, Tryz.ntmps34
            go_wp2
            all_goals (go_ret2; exact ⟨rfl, rfl⟩)
          · have hm : markM (bl b) = (0, 0) := by rw [hl, mark_two]; simp [y1]
            have y2 : ¬ (y.toNat : Int) = 255 := fun h => y1 (ey3.2 (by omega))
            have HM := Lib.hid hm
            have HL := Lib.hid hl
            have EX1 := Lib.hid ex1
            have EX2 := Lib.hid ex2
            have EX3 := Lib.hid ex3
            have EY1 := Lib.hid ey1
            have EY2 := Lib.hid ey2
            have EY3 := Lib.hid ey3
            have X1 := Lib.hid x1
            have XA := Lib.hid xa
            have Y1 := Lib.hid y1
            have HLL := Lib.hid hL
            clear hm hl ex1 ex2 ex3 ey1 ey2 ey3 x1 xa y1 hL
            rw [HM.out]
            go_enter Tryz.func34, Tryz.ntmps34
            go_wp2
            all_goals (go_ret2; exact ⟨rfl, rfl⟩)
        · have hm : markM (bl b) = (0, 0) := by rw [hl, mark_two]; simp [x1, xa, xb]
          have x4 : ¬ (x.toNat : Int) = 254 := fun h => xb (ex3.2 (by omega))
          have HM := Lib.hid hm
          have HL := Lib.hid hl
          have EX1 := Lib.hid ex1
          have EX2 := Lib.hid ex2
          have EX3 := Lib.hid ex3
          have EY1 := Lib.hid ey1
          have EY2 := Lib.hid ey2
          have EY3 := Lib.hid ey3
          have X1 := Lib.hid x1
          have XA := Lib.hid xa
          have XB := Lib.hid xb
          have HLL := Lib.hid hL
          clear hm hl ex1 ex2 ex3 ey1 ey2 ey3 x1 xa xb hL
          rw [HM.out]
          go_enter Tryz.func34, Tryz.ntmps34
          go_wp2
          all_goals (go_ret2; exact ⟨rfl, rfl⟩)
theorem walk (a0 : ByteArray) (w0 : a0.size ≤ maxLen) (w : World) (hT : TW w) :
    Calls Tryz.prog 9 #[.string a0] w fun e w' => e = .returned (.bool true) ∧ Below w.heap.size w w' := by
  have KA := Lib.hid awake10in_any
  have k1 := fun w => mark_any a0 w
  have k2 := fun w => refMark_any a0 w
  generalize markM (bl a0) = R at *
  obtain ⟨r1, r2⟩ := R
  have K1 := Lib.hid k1
  have K2 := Lib.hid k2
  clear k1 k2
  go_enter Tryz.func9, Tryz.ntmps9
  go_wp2_with (first
    | (go_at_call 33; refine (K1.out _).mono ?_; rintro e w1 ⟨rfl, rfl⟩)
    | (go_at_call 34; refine (K2.out _).mono ?_; rintro e w1 ⟨rfl, rfl⟩)
    | (go_at_call 26; refine (KA.out _ hT).mono ?_; rintro e w1 ⟨rfl, hb1⟩))
  go_ret
  exact ⟨rfl, hb1⟩

set_option maxRecDepth 100000 in
theorem lifted (os : Os) (started : os.Started) (H : Type) (enc : TypeId × Value → H) :
    ReturnsInHanded {} Tryz.checked os 9 .any (fun w args => (Rows.detectMarksSpec.pre enc Tryz.prog Tryz.f9 Rows.detectMarksRow.domain false w args ∧ laidMetH Tryz.prog laid3 w) ∧ sizedMet enc Tryz.prog Tryz.f9 (OpenSpec.ofChange Rows.detectMarksSpec) false w args) (Rows.detectMarksSpec.post enc Tryz.prog Tryz.f9 false true false false) := by
  refine handed_laid_shaped (C := Tryz.checked) (X := fun w => laidMetH Tryz.prog laid3 w) (fun _ _ hh h => h.of_heap hh) own started (by kernel_rfl) Tryz.func9
    (ChangeSpec.witness_shaped (enc := enc) (C := Tryz.checked) (os := os) (X := fun w _ => laidMetH Tryz.prog laid3 w) false (World.laidAll Tryz.prog os laid3) #[.string ByteArray.empty] 8 (World.laidAll_os _ _ _) (laid_shaped os _) (by kernel_rfl) (by kernel_rfl) (by kernel_rfl) (laid_met os _)) ?_
  intro W base args ds gs before hval0 hW hL hsh
  have hT := tw_of_laid hL hsh
  have hval : ∀ (j : Nat) t v, Tryz.f9.params[j]? = some t → args[j]? = some v → Value.okWide Tryz.prog W .any base t v := hval0
  have hW' := hW
  obtain ⟨p, q, hA0, hV, rfl, hfz, hnd⟩ := hW
  have hA : DataW.TrodAll enc Tryz.prog W 0 (fun _ => true) true Tryz.f9.params.toList args.toList ds p := hA0
  rw [Tryz.params9] at hA hval
  obtain ⟨v0, vs0, d0, ds0, p0, q0, hargs, rfl, rfl, h0, r0⟩ := trodAll_cons hA
  obtain ⟨rfl, rfl, rfl⟩ := trodAll_nil r0
  obtain rfl : args = #[v0] := by cases args; simp_all
  obtain ⟨rfl, rfl⟩ := trodVars_none hV
  obtain ⟨a0, rfl, rfl, rfl, w0⟩ := open_string Tryz.underlying9 (hval 0 9 v0 rfl rfl) h0
  clear hA0 hval0
  simp only [List.append_nil] at hW'
  refine (walk a0 w0 W hT).mono fun e W' ⟨he, hg⟩ => ?_
  subst he
  exact ⟨_, rfl, post_below (pa := []) (pv := []) hW' (trodAll_cons_mk (shut_bool Tryz.underlying4 _) trodAll_mk0) (trodAll_cons_mk (shut_string Tryz.underlying9 w0) trodAll_mk0) rfl hg⟩

theorem over : Rows.detectMarksRow.holds Tryz.pinned (OpenSpec.ofChange Rows.detectMarksSpec) :=
  OpenClaim.holds_of_wide 9 Tryz.f9 rfl rfl rfl rfl rfl rfl rfl ⟨rfl, rfl, rfl, rfl, rfl⟩ rfl rfl rfl rfl rfl k_named Tryz.func9 k_joined (of_decide_eq_true (by kernel_rfl)) k_wrap
    (fun os started H enc _ => lifted os started H enc)

/-- THE STATEMENT: the tied card -/
theorem proved : Rows.DetectMarksCardSaid :=
  Claim7.holds_tied_plain_at .later [] [.data, .data, .pinned] true Rows.detectMarksCard.stood.harness Rows.detectMarksCard.stood.looks over (fun _ h => by cases h) k_wf (fun _ h => by cases h) detectMarks_row_tie rfl ⟨rfl, rfl⟩ k_main rfl
    (fun f fn hf hfn => by
      obtain rfl : f = 9 := Option.some.inj (k_named.symm.trans hf) |>.symm
      obtain rfl : fn = Tryz.f9 := (Option.some.inj (Tryz.func9.symm.trans hfn)).symm
      exact ⟨k_looks, fun j t ht => by
        rw [Tryz.params9] at ht
        have hm : t ∈ [9] := by simpa using Array.mem_of_getElem? ht
        exact (show Tryz.prog.wantsStandIn t = false by simpa using List.all_eq_true.1 k_stand t hm)⟩)
    k_goes
#print axioms proved
end Go.Proofs.YtbijjomknbnmfaaGreatDoor.detectMarks
