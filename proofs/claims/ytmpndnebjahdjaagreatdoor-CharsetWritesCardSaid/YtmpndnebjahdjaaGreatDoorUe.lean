/- Walks: the code of a sign in the rows, as the reference looks for it (layer 7). -/
import Derived.Test.YtmpndnebjahdjaaGreatDoorUc
import Derived.Test.YtmpndnebjahdjaaGreatDoorTg
namespace Go.Proofs.YtmpndnebjahdjaaGreatDoor
open Go.RowKit
set_option linter.unusedVariables false
set_option linter.unusedSimpArgs false

theorem findI_get (p : Int) : ∀ (l : List Int) (i j : Nat), findI l p i = some j → i ≤ j ∧ l[j - i]? = some p := by
  intro l
  induction l with
  | nil => intro i j h; cases h
  | cons q l ih =>
    intro i j h
    rw [findI] at h
    by_cases hq : q = p
    · rw [if_pos hq] at h
      have := Option.some.inj h
      subst this
      exact ⟨Nat.le_refl _, by rw [Nat.sub_self, hq]; rfl⟩
    · rw [if_neg hq] at h
      obtain ⟨h1, h2⟩ := ih (i + 1) j h
      exact ⟨by omega, by rw [show j - i = (j - (i + 1)) + 1 from by omega]; exact h2⟩
theorem findI_at (p : Int) (l : List Int) (j : Nat) (h : findI l p 0 = some j) : l[j]? = some p := (findI_get p l 0 j h).2
theorem spans_sign : wSpans.all (fun s => (List.range s.2.2.toNat).all fun (d : Nat) => (fun c => decide (rowS (c / 256) (c % 256) = s.2.1 + (d : Int)) && decide (161 ≤ c % 256 ∧ c % 256 ≤ 254) && decide (163 ≤ c / 256 ∧ c / 256 ≤ 172 ∧ c / 256 ≠ 166)) (s.1 + (d : Int))) = true := by decide +kernel
/-- a sign that has a code in the rows stands at it. -/
theorem otherCode_row (p c : Int) (h : otherCodeM p = some c) : 161 ≤ c / 256 ∧ c / 256 ≤ 172 ∧ 161 ≤ c % 256 ∧ c % 256 ≤ 254 ∧ rowW (c / 256) (c % 256) = p := by
  rw [otherCodeM_P] at h
  unfold ocP at h
  have l1 : (hexPts (bl (wRow 4))).length = 94 := by rw [row_a1.1]; exact a1T_len.2.2
  have l2 : (hexPts (bl (wRow 6))).length = 71 := by rw [row_a2.1]; exact a2T_len.2.2
  have l6 : (hexPts (bl (wRow 8))).length = 68 := by rw [row_a6.1]; exact a6T_len.2.2
  cases h1 : findI (hexPts (bl (wRow 4))) p 0 with
  | some j =>
    rw [h1] at h
    simp only at h
    have hc := Option.some.inj h
    have hg := findI_at p _ j h1
    have hj := (List.getElem?_eq_some_iff.1 hg).1
    rw [l1] at hj
    refine ⟨by omega, by omega, by omega, by omega, ?_⟩
    unfold rowW
    rw [if_pos (by omega), ← row_a1.1, show (c % 256 - 161).toNat = j from by omega, List.getD_eq_getElem?_getD, hg]
    rfl
  | none =>
    rw [h1] at h
    simp only at h
    cases h2 : findI (hexPts (bl (wRow 6))) p 0 with
    | some j =>
      rw [h2] at h
      simp only at h
      have hc := Option.some.inj h
      have hg := findI_at p _ j h2
      have hj := (List.getElem?_eq_some_iff.1 hg).1
      rw [l2] at hj
      refine ⟨by omega, by omega, by omega, by omega, ?_⟩
      unfold rowW
      rw [if_neg (by omega), if_pos (by omega), if_pos (by omega), ← row_a2.1, show (c % 256 - 161).toNat = j from by omega, List.getD_eq_getElem?_getD, hg]
      rfl
    | none =>
      rw [h2] at h
      simp only at h
      cases h6 : findI (hexPts (bl (wRow 8))) p 0 with
      | some j =>
        rw [h6] at h
        simp only at h
        have hc := Option.some.inj h
        have hg := findI_at p _ j h6
        have hj := (List.getElem?_eq_some_iff.1 hg).1
        rw [l6] at hj
        refine ⟨by omega, by omega, by omega, by omega, ?_⟩
        unfold rowW
        rw [if_neg (by omega), if_neg (by omega), if_pos (by omega), if_pos (by omega), ← row_a6.1, show (c % 256 - 161).toNat = j from by omega, List.getD_eq_getElem?_getD, hg]
        rfl
      | none =>
        rw [h6] at h
        simp only [Option.map_eq_some_iff] at h
        obtain ⟨s, hs, hc⟩ := h
        have hi := List.find?_some hs
        unfold inTo at hi
        rw [decide_eq_true_eq] at hi
        have hall := List.all_eq_true.1 spans_sign s (List.mem_of_find?_eq_some hs)
        rw [List.all_eq_true] at hall
        have h3 := hall (p - s.2.1).toNat (List.mem_range.2 (by omega))
        simp only at h3
        rw [show (((p - s.2.1).toNat : Nat) : Int) = p - s.2.1 from by omega, hc, Bool.and_eq_true, Bool.and_eq_true, decide_eq_true_eq, decide_eq_true_eq, decide_eq_true_eq] at h3
        obtain ⟨⟨e1, e2⟩, e3⟩ := h3
        refine ⟨by omega, by omega, e2.1, e2.2, ?_⟩
        unfold rowW
        rw [if_neg (by omega), if_neg (by omega), if_neg (by omega), e1]
        omega
set_option maxRecDepth 100000 in
set_option maxHeartbeats 4000000 in
theorem rowCode_any (p : Int) (w : World) (hp : p ≠ 0) : Calls Tryz.prog 117 #[.int .i32 p] w fun e w' => e = .returned (.int .i64 (byteI (otherCodeM p))) ∧ Below w.heap.size w w' := by
  have K1 := Lib.hid (fun lead b w a c d e => row7_any lead b w a c d e)
  have HB := Lib.hid (fun lead b a c d e h => (rowW_back lead b a c d e h).2.2)
  have HC := Lib.hid (fun c h => otherCode_row p c h)
  obtain ⟨r, hr⟩ : ∃ r, r = otherCodeM p := ⟨_, rfl⟩
  rw [← hr]
  have HR := Lib.hid hr
  have HP := Lib.hid hp
  clear hr hp
  go_enter Tryz.func117, Tryz.ntmps117
  go_wp2
  go_loopw [3] (fun lv wr => ∃ lead : Int, lv = .int .i64 lead ∧ 161 ≤ lead ∧ lead ≤ 173 ∧ Hid (∀ l b, 161 ≤ l → l < lead → 161 ≤ b → b ≤ 254 → rowW l b ≠ p) ∧ Below w.heap.size w wr) (fun lv _ => (173 - intOf lv).toNat)
  case atStart => exact ⟨161, rfl, by omega, by omega, Lib.hid (fun l b h1 h2 => by omega), Below.refl _ _⟩
  case round =>
    obtain ⟨lead, rfl, hl0, hl1, hQ, hbel⟩ := hrel
    by_cases hlt : lead ≤ 172
    · go_wp2
      go_loopw [4] (fun bv wq => ∃ b : Int, bv = .int .i64 b ∧ 161 ≤ b ∧ b ≤ 255 ∧ Hid (∀ c, 161 ≤ c → c < b → rowW lead c ≠ p) ∧ Below w.heap.size w wq) (fun bv _ => (255 - intOf bv).toNat)
      case atStart => exact ⟨161, rfl, by omega, by omega, Lib.hid (fun c h1 h2 => by omega), hbel⟩
      case round =>
        obtain ⟨b, rfl, hb0, hb1, hP, hbq⟩ := hrel
        rename World => wq
        by_cases hlb : b ≤ 254
        · have k1 := fun w => K1.out lead b w hl0 (by omega) hb0 hlb
          by_cases he : rowW lead b = p
          · have hres : byteI r = lead * 256 + b := by
              have h := HB.out lead b hl0 (by omega) hb0 hlb (by rw [he]; exact HP.out)
              rw [he] at h
              rw [HR.out, h]
              rfl
            rw [he] at k1
            have K1' := Lib.hid k1
            have HRES := Lib.hid hres
            clear k1 hres
            clear he hP hQ
            go_wp2_with (go_at_call 173; refine (K1'.out _).mono ?_; rintro e w1 ⟨rfl, hb1⟩)
            go_ret
            exact ⟨ret_i HRES.out.symm, bt hbq hb1⟩
          · have hq : ∀ c, 161 ≤ c → c < b + 1 → rowW lead c ≠ p := by
              intro c h1 h2
              by_cases hc : c < b
              · exact hP.out c h1 hc
              · rw [show c = b from by omega]; exact he
            generalize rowW lead b = z at *
            have K1' := Lib.hid k1
            have HQ' := Lib.hid hq
            clear k1 hq
            clear hP
            go_wp2_with (go_at_call 173; refine (K1'.out _).mono ?_; rintro e w1 ⟨rfl, hb1⟩)
            go_roundw
            case rel => exact ⟨b + 1, by go_num, by omega, by omega, HQ', bt hbq hb1⟩
            case measure => simp [intOf]; omega
        · have hq : ∀ l c, 161 ≤ l → l < lead + 1 → 161 ≤ c → c ≤ 254 → rowW l c ≠ p := by
            intro l c h1 h2 h3 h4
            by_cases hc : l < lead
            · exact hQ.out l c h1 hc h3 h4
            · rw [show l = lead from by omega]; exact hP.out c h3 (by omega)
          have HQ' := Lib.hid hq
          clear hP hQ hq
          go_wp2
          go_roundw
          case rel => exact ⟨lead + 1, by go_num, by omega, by omega, HQ', hbq⟩
          case measure => simp [intOf]; omega
    · have hres : byteI r = -1 := by
        cases hrr : r with
        | none => rfl
        | some m =>
          exfalso
          have h := HR.out
          rw [hrr] at h
          obtain ⟨e1, e2, e3, e4, e5⟩ := HC.out m h.symm
          exact hQ.out _ _ e1 (by omega) e3 e4 e5
      have HRES := Lib.hid hres
      clear hQ hres
      go_wp2
      go_ret
      exact ⟨ret_i HRES.out.symm, hbel⟩
end Go.Proofs.YtmpndnebjahdjaaGreatDoor
/- Walk: the code of the signs with which some begin, as the reference looks for it (layer 8). -/
namespace Go.Proofs.YtmpndnebjahdjaaGreatDoor
open Go.RowKit
set_option linter.unusedVariables false
set_option linter.unusedSimpArgs false

theorem rowLits (w : World) (cs : Array Value) (t : TypeId) : Row (w.alloc (.cells cs t)) (.slice (some ⟨w.heap.size, 0, none⟩) cs.size cs.size) cs.size cs.toList := by
  refine ⟨_, _, rfl, fun j x hj => ⟨w.heap.size, 0, rfl, ?_⟩⟩
  rw [Nat.zero_add, World.cell?_alloc_new]
  simpa using hj
def leadsL : List Int := [136, 161, 163, 164, 165]
theorem leads8_any (w : World) : Calls Tryz.prog 168 #[] w fun e w' => ∃ v, e = .returned v ∧ Row w' v 5 (ncells leadsL) ∧ Below w.heap.size w w' := by
  go_enter Tryz.func168, Tryz.ntmps168
  go_wp2
  go_ret
  exact ⟨_, rfl, rowLits w #[.int .i64 136, .int .i64 161, .int .i64 163, .int .i64 164, .int .i64 165] 3, bal (Below.refl _ _) _⟩
theorem rows_len : leadsL.all (fun lead => decide ((pts (bl (rowT lead))).length ≤ 157)) = true := by decide +kernel
def spanIn (s : Int × Int × List Int) (R : List Int) : Bool := decide (s.1 ∈ leadsL) && decide (0 ≤ s.2.1) && (List.range s.2.2.length).all fun j => decide (R[s.2.1.toNat + j]? = s.2.2[j]?)
set_option maxRecDepth 100000 in
theorem spans_in : (bSpans.map conv).all (fun s => spanIn s (pts (bl (rowT s.1)))) = true := by decide +kernel
noncomputable def bQ (p : Int) : Option Int := bfindQ (bSpans.map conv) p
theorem row_bQ (p : Int) (hp : 128 ≤ p) (lead : Int) (hl : lead ∈ leadsL) (j : Nat) (h : (pts (bl (rowT lead)))[j]? = some p) : j < 157 ∧ bQ p = some (lead * 256 + bsecond (j : Int)) := by
  have hlen := List.all_eq_true.1 rows_len lead hl
  rw [decide_eq_true_eq] at hlen
  have hj := (List.getElem?_eq_some_iff.1 h).1
  have hj7 : j < 157 := by omega
  refine ⟨hj7, ?_⟩
  have h1 := List.all_eq_true.1 back_rows lead hl
  rw [List.all_eq_true] at h1
  have h2 := h1 j (List.mem_range.2 hj7)
  rw [forceI_eq, List.getD_eq_getElem?_getD, h] at h2
  have e : q63 ((some p).getD 0) = p := by show (if p = 63 then 0 else p) = p; rw [if_neg (by omega)]
  rw [e] at h2
  unfold okBack at h2
  rw [decide_eq_false (show ¬ p = 0 from by omega), Bool.false_or, Bool.and_eq_true, decide_eq_true_eq] at h2
  exact h2.2
theorem bfindQ_in (p c : Int) : ∀ l : List (Int × Int × List Int), (∀ s ∈ l, spanIn s (pts (bl (rowT s.1))) = true) → bfindQ l p = some c → ∃ lead ∈ leadsL, ∃ j : Nat, (pts (bl (rowT lead)))[j]? = some p := by
  intro l
  induction l with
  | nil => intro _ h; cases h
  | cons s l ih =>
    intro hs h
    rw [bfindQ] at h
    cases hf : findI s.2.2 p 0 with
    | some j =>
      have hg := findI_at p _ j hf
      have hj := (List.getElem?_eq_some_iff.1 hg).1
      have h1 := hs s (by simp)
      unfold spanIn at h1
      rw [Bool.and_eq_true, Bool.and_eq_true, decide_eq_true_eq, decide_eq_true_eq, List.all_eq_true] at h1
      have h2 := h1.2 j (List.mem_range.2 hj)
      rw [decide_eq_true_eq, hg] at h2
      exact ⟨s.1, h1.1.1, s.2.1.toNat + j, h2⟩
    | none => rw [hf] at h; exact ih (fun t ht => hs t (by simp [ht])) h
theorem bQ_in (p c : Int) (h : bQ p = some c) : ∃ lead ∈ leadsL, ∃ j : Nat, (pts (bl (rowT lead)))[j]? = some p :=
  bfindQ_in p c _ (fun s hs => List.all_eq_true.1 spans_in s hs) h
theorem twos_all : (List.range 255).all (fun (b : Nat) => decide ((twoR 136 (b : Int)).1 = 0) || decide (btwoL bTwos (twoR 136 (b : Int)).1 (some (twoR 136 (b : Int)).2) = some (b : Int))) = true := by decide +kernel
theorem two_hit (p q b : Int) (h0 : 0 ≤ b) (h1 : b ≤ 254) (hp : p ≠ 0) (h : twoR 136 b = (p, q)) : btwoL bTwos p (some q) = some b := by
  obtain ⟨n, rfl⟩ := Int.eq_ofNat_of_zero_le h0
  have h2 := List.all_eq_true.1 twos_all n (List.mem_range.2 (by omega))
  rw [h, Bool.or_eq_true, decide_eq_true_eq, decide_eq_true_eq] at h2
  exact h2.resolve_left hp
theorem two_of (p q c : Int) (h : btwoL bTwos p (some q) = some c) : 64 ≤ c ∧ c ≤ 254 ∧ twoR 136 c = (p, q) := by
  unfold bTwos at h
  by_cases c1 : p = 202 ∧ q = 772
  · obtain ⟨rfl, rfl⟩ := c1
    have : c = 98 := by have h' : (some 98 : Option Int) = some c := h; exact (Option.some.inj h').symm
    subst this; exact ⟨by omega, by omega, by decide⟩
  by_cases c2 : p = 202 ∧ q = 780
  · obtain ⟨rfl, rfl⟩ := c2
    have : c = 100 := by have h' : (some 100 : Option Int) = some c := h; exact (Option.some.inj h').symm
    subst this; exact ⟨by omega, by omega, by decide⟩
  by_cases c3 : p = 234 ∧ q = 772
  · obtain ⟨rfl, rfl⟩ := c3
    have : c = 163 := by have h' : (some 163 : Option Int) = some c := h; exact (Option.some.inj h').symm
    subst this; exact ⟨by omega, by omega, by decide⟩
  by_cases c4 : p = 234 ∧ q = 780
  · obtain ⟨rfl, rfl⟩ := c4
    have : c = 165 := by have h' : (some 165 : Option Int) = some c := h; exact (Option.some.inj h').symm
    subst this; exact ⟨by omega, by omega, by decide⟩
  · exfalso
    rw [btwoL, if_neg (fun h' => c1 ⟨h'.1, Option.some.inj h'.2⟩), btwoL, if_neg (fun h' => c2 ⟨h'.1, Option.some.inj h'.2⟩), btwoL, if_neg (fun h' => c3 ⟨h'.1, Option.some.inj h'.2⟩), btwoL, if_neg (fun h' => c4 ⟨h'.1, Option.some.inj h'.2⟩), btwoL] at h
    cases h
/-- the code, and how many signs. -/
noncomputable def codeQ (p : Int) (q : Option Int) : Int × Int := match btwoL bTwos p q with
  | some c => (34816 + c, 2)
  | none => match bQ p with
    | some c => (c, 1)
    | none => (-1, 0)
end Go.Proofs.YtmpndnebjahdjaaGreatDoor
