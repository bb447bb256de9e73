/- Walks: the reference's Big5 (layer 8). -/
import Derived.Test.YtogknbpmgflpgaaGreatDoorTh
namespace Go.Proofs.YtogknbpmgflpgaaGreatDoor
open Go.RowKit
set_option linter.unusedVariables false
set_option linter.unusedSimpArgs false

theorem cell8_any (s : Int) (w : World) (h0 : -1000 ≤ s) (h1 : s ≤ 1000) :
    Calls Tryz.prog 234 #[.int .i64 s] w fun e w' => e = .returned (.int .i64 (b5cell s)) ∧ w = w' := by
  go_enter Tryz.func234, Tryz.ntmps234
  go_wp2
  all_goals go_ret
  all_goals (refine ⟨ret_i ?_, rfl⟩; unfold b5cell; omega)
noncomputable def b88T : ByteArray := constAt Tryz.f236 3 0
noncomputable def b1T : ByteArray := constAt Tryz.f236 5 0
noncomputable def b3T : ByteArray := constAt Tryz.f236 7 0
noncomputable def b4T : ByteArray := constAt Tryz.f236 9 0
noncomputable def b5T : ByteArray := constAt Tryz.f236 11 0
noncomputable def rowT (lead : Int) : ByteArray := if lead = 136 then b88T else if lead = 161 then b1T else if lead = 163 then b3T else if lead = 164 then b4T else if lead = 165 then b5T else ⟨#[]⟩
theorem bT_ok : [b88T, b1T, b3T, b4T, b5T].all (fun T => decide (T.size ≤ 1000) && decide ((scanL (bl T)).2 = none)) = true := by decide +kernel
theorem rowT_ok (lead : Int) : (rowT lead).size ≤ 1000 ∧ (scanL (bl (rowT lead))).2 = none := by
  have h := bT_ok
  simp only [List.all_cons, List.all_nil, Bool.and_true, Bool.and_eq_true, decide_eq_true_eq] at h
  obtain ⟨h1, h2, h3, h4, h5⟩ := h
  unfold rowT
  split
  · exact h1
  split
  · exact h2
  split
  · exact h3
  split
  · exact h4
  split
  · exact h5
  · exact ⟨by decide, by decide⟩
set_option maxRecDepth 100000 in
set_option maxHeartbeats 2000000 in
theorem row8_any (lead : Int) (w : World) : Calls Tryz.prog 236 #[.int .i64 lead] w fun e w' => e = .returned (.string (rowT lead)) ∧ w = w' := by
  by_cases c1 : lead = 136
  · subst c1
    have e : rowT 136 = b88T := by unfold rowT; rw [if_pos rfl]
    rw [e]
    clear e
    go_enter Tryz.func236, Tryz.ntmps236
    go_wp2
    go_ret
    exact ⟨ret_s (by kernel_rfl), rfl⟩
  by_cases c2 : lead = 161
  · subst c2
    have e : rowT 161 = b1T := by unfold rowT; rw [if_neg (by omega), if_pos rfl]
    rw [e]
    clear e
    go_enter Tryz.func236, Tryz.ntmps236
    go_wp2
    go_ret
    exact ⟨ret_s (by kernel_rfl), rfl⟩
  by_cases c3 : lead = 163
  · subst c3
    have e : rowT 163 = b3T := by unfold rowT; rw [if_neg (by omega), if_neg (by omega), if_pos rfl]
    rw [e]
    clear e
    go_enter Tryz.func236, Tryz.ntmps236
    go_wp2
    go_ret
    exact ⟨ret_s (by kernel_rfl), rfl⟩
  by_cases c4 : lead = 164
  · subst c4
    have e : rowT 164 = b4T := by unfold rowT; rw [if_neg (by omega), if_neg (by omega), if_neg (by omega), if_pos rfl]
    rw [e]
    clear e
    go_enter Tryz.func236, Tryz.ntmps236
    go_wp2
    go_ret
    exact ⟨ret_s (by kernel_rfl), rfl⟩
  by_cases c5 : lead = 165
  · subst c5
    have e : rowT 165 = b5T := by unfold rowT; rw [if_neg (by omega), if_neg (by omega), if_neg (by omega), if_neg (by omega), if_pos rfl]
    rw [e]
    clear e
    go_enter Tryz.func236, Tryz.ntmps236
    go_wp2
    go_ret
    exact ⟨ret_s (by kernel_rfl), rfl⟩
  · have e : rowT lead = ⟨#[]⟩ := by unfold rowT; rw [if_neg c1, if_neg c2, if_neg c3, if_neg c4, if_neg c5]
    rw [e]
    clear e
    go_enter Tryz.func236, Tryz.ntmps236
    go_wp2
    go_ret
    exact ⟨rfl, rfl⟩
set_option maxRecDepth 100000 in
set_option maxHeartbeats 4000000 in
theorem nth8_any (s : ByteArray) (N : Nat) (w : World) (hs : s.size ≤ 1073741824) (hN : N ≤ 1000) (hv : (scanL (bl s)).2 = none) :
    Calls Tryz.prog 235 #[.string s, .int .i64 N] w fun e w' => e = .returned (.int .i32 ((pts (bl s)).getD N 0)) ∧ Below w.heap.size w w' := by
  have HL : Hid ((bl s).length = s.size) := bl_length s
  have K1 := Lib.hid (fun i w hi => refAt_any s i w hs hi)
  obtain ⟨P, hP⟩ : ∃ P, P = pts (bl s) := ⟨_, rfl⟩
  rw [← hP]
  obtain ⟨p, hp⟩ : ∃ p, p = P.getD N 0 := ⟨_, rfl⟩
  rw [← hp]
  have HPL : Hid (P.length ≤ s.size) := Lib.hid (by rw [hP, ← HL.out]; exact pts_len _)
  have HP := Lib.hid hP
  have HV := Lib.hid hv
  have HPN := Lib.hid hp
  clear hP hv hp
  go_enter Tryz.func235, Tryz.ntmps235
  go_wp2
  go_loopw [5, 6] (fun iv nv wr => ∃ (f k m cnt : Nat), iv = .int .i64 (k : Int) ∧ nv = .int .i64 (m : Int) ∧ m ≤ N ∧ k ≤ s.size ∧ s.size - k ≤ f ∧ Hid ((scanF f ((bl s).drop k) k cnt).2 = none) ∧ Hid (pts ((bl s).drop k) = P.drop m) ∧ Below w.heap.size w wr) (fun iv _ _ => s.size - (intOf iv).toNat)
  case atStart => exact ⟨s.size, 0, 0, 0, rfl, rfl, Nat.zero_le _, Nat.zero_le _, by omega, Lib.hid (by have := HV.out; unfold scanL at this; rw [HL.out] at this; rw [List.drop_zero]; exact this), Lib.hid (by rw [List.drop_zero, List.drop_zero, HP.out]), Below.refl _ _⟩
  case round =>
    obtain ⟨f, k, m, cnt, rfl, rfl, hm, hk, hf, hQ, hPt, hbel⟩ := hrel
    by_cases hlt : k < s.size
    · have hne : (bl s).drop k ≠ [] := drop_ne (by rw [HL.out]; omega)
      obtain ⟨f, rfl⟩ : ∃ g, f = g + 1 := ⟨f - 1, by omega⟩
      have hat := refAt_dec ((bl s).drop k) hne
      have k1 := fun w => K1.out k w hlt
      rw [hat] at k1
      have hb : badDec ((bl s).drop k) = false := by
        cases hb : badDec ((bl s).drop k) with
        | false => rfl
        | true =>
          have := hQ.out
          rw [scanF_bad f _ k _ hne hb] at this
          cases this
      rw [hb] at k1
      simp only [Bool.false_eq_true, if_false] at k1
      have e1 := hQ.out
      rw [scanF_step f _ k _ hne hb, List.drop_drop] at e1
      have e2 := hPt.out
      have hmP : m < P.length := by
        rcases Nat.lt_or_ge m P.length with h | h
        · exact h
        · rw [List.drop_of_length_le h, pts_cons _ hne] at e2
          cases e2
      rw [pts_cons _ hne, List.drop_drop, List.drop_eq_getElem_cons hmP] at e2
      have hdp := dec_pos ((bl s).drop k)
      have hdl := dec_le _ hne
      rw [List.length_drop, HL.out] at hdl
      rcases hd : dec ((bl s).drop k) with ⟨q, j⟩
      rw [hd] at k1 e1 e2 hdp hdl
      simp only at k1 e1 e2 hdp hdl
      obtain ⟨e3, e4⟩ := List.cons.inj e2
      by_cases hmN : m = N
      · subst hmN
        have hqp : (q : Int) = p := by
          have := HPN.out
          rw [List.getD_eq_getElem?_getD, List.getElem?_eq_getElem hmP] at this
          rw [e3, this]
          rfl
        have K1' := Lib.hid k1
        have HQP := Lib.hid hqp
        have E3 := Lib.hid e3
        have E4 := Lib.hid e4
        have E1 := Lib.hid e1
        clear k1 hqp e3 e4 e1
        clear hat hb hne hQ hd e2
        go_wp2_with (go_at_call 97; refine (K1'.out _).mono ?_; rintro e w1 ⟨rfl, hb1⟩)
        go_ret
        exact ⟨ret_i HQP.out, bt hbel hb1⟩
      · have hz2 : ¬ (m : Int) = N := by omega
        have K1' := Lib.hid k1
        have E3 := Lib.hid e3
        have E4 := Lib.hid e4
        have E1 := Lib.hid e1
        clear k1 e3 e4 e1
        clear hat hb hne hQ hd e2
        go_wp2_with (go_at_call 97; refine (K1'.out _).mono ?_; rintro e w1 ⟨rfl, hb1⟩)
        go_roundw
        case rel => exact ⟨f, k + j, m + 1, cnt + 1, by go_num, by go_num, by omega, by omega, by omega, E1, E4, bt hbel hb1⟩
        case measure => simp [intOf]; omega
    · have hp0 : p = 0 := by
        have e2 := hPt.out
        have hl : m ≥ P.length := by
          rcases Nat.lt_or_ge m P.length with h | h
          · rw [List.drop_of_length_le (by rw [HL.out]; omega), pts_nil, List.drop_eq_getElem_cons h] at e2
            cases e2
          · exact h
        rw [HPN.out, List.getD_eq_getElem?_getD, List.getElem?_eq_none (by omega)]
        rfl
      have HP0 := Lib.hid hp0
      clear hp0
      go_wp2
      go_ret
      exact ⟨ret_i HP0.out.symm, hbel⟩
/-- a sign that is there. -/
def q63 (p : Int) : Int := if p = 63 then 0 else p
noncomputable def oneR (lead b : Int) : Int := if b5cell b < 0 then 0 else q63 ((pts (bl (rowT lead))).getD (b5cell b).toNat 0)
set_option maxRecDepth 100000 in
set_option maxHeartbeats 2000000 in
theorem one8_any (lead b : Int) (w : World) (h0 : 0 ≤ lead) (h1 : lead ≤ 255) (h2 : 0 ≤ b) (h3 : b ≤ 255) :
    Calls Tryz.prog 203 #[.int .i64 lead, .int .i64 b] w fun e w' => e = .returned (.int .i32 (oneR lead b)) ∧ Below w.heap.size w w' := by
  have k0 := fun w => cell8_any b w (by omega) (by omega)
  obtain ⟨c0, c1⟩ := b5cell_bd b
  have hm : oneR lead b = if b5cell b < 0 then 0 else q63 ((pts (bl (rowT lead))).getD (b5cell b).toNat 0) := rfl
  obtain ⟨t1, t2⟩ := rowT_ok lead
  have k1 := fun w => row8_any lead w
  obtain ⟨T, hT⟩ : ∃ T, T = rowT lead := ⟨_, rfl⟩
  rw [← hT] at hm t1 t2 k1
  generalize b5cell b = c at *
  by_cases hc : c < 0
  · rw [if_pos hc] at hm
    rw [hm]
    have K0 := Lib.hid k0
    have K1 := Lib.hid k1
    have HT := Lib.hid hT
    have H2 := Lib.hid t2
    clear k0 k1 hT t2
    clear hm t1
    go_enter Tryz.func203, Tryz.ntmps203
    go_wp2_with (go_at_call 234; refine (K0.out _).mono ?_; rintro e w1 ⟨rfl, rfl⟩)
    go_ret
    exact ⟨rfl, Below.refl _ _⟩
  · obtain ⟨c, rfl⟩ := Int.eq_ofNat_of_zero_le (show 0 ≤ c from by omega)
    rw [if_neg hc, Int.toNat_natCast] at hm
    rw [hm]
    have k2 := fun w => nth8_any T c w (by omega) (by omega) t2
    generalize (pts (bl T)).getD c 0 = p at *
    unfold q63
    have K0 := Lib.hid k0
    have K1 := Lib.hid k1
    have HT := Lib.hid hT
    have H2 := Lib.hid t2
    have K2 := Lib.hid k2
    clear k0 k1 hT t2 k2
    clear hm t1
    by_cases hp : p = 63
    · subst hp
      go_enter Tryz.func203, Tryz.ntmps203
      go_wp2_with (first
        | (go_at_call 234; refine (K0.out _).mono ?_; rintro e w1 ⟨rfl, rfl⟩)
        | (go_at_call 236; refine (K1.out _).mono ?_; rintro e w1 ⟨rfl, rfl⟩)
        | (go_at_call 235; refine (K2.out _).mono ?_; rintro e w1 ⟨rfl, hb1⟩))
      go_ret
      exact ⟨rfl, hb1⟩
    · rw [if_neg hp]
      go_enter Tryz.func203, Tryz.ntmps203
      go_wp2_with (first
        | (go_at_call 234; refine (K0.out _).mono ?_; rintro e w1 ⟨rfl, rfl⟩)
        | (go_at_call 236; refine (K1.out _).mono ?_; rintro e w1 ⟨rfl, rfl⟩)
        | (go_at_call 235; refine (K2.out _).mono ?_; rintro e w1 ⟨rfl, hb1⟩))
      go_ret
      exact ⟨rfl, hb1⟩
def twoR (lead b : Int) : Int × Int := if lead * 256 + b = 34914 then (202, 772) else if lead * 256 + b = 34916 then (202, 780) else if lead * 256 + b = 34979 then (234, 772) else if lead * 256 + b = 34981 then (234, 780) else (0, 0)
set_option maxHeartbeats 2000000 in
theorem two8_any (lead b : Int) (w : World) (h0 : 0 ≤ lead) (h1 : lead ≤ 255) (h2 : 0 ≤ b) (h3 : b ≤ 255) :
    Calls Tryz.prog 202 #[.int .i64 lead, .int .i64 b] w fun e w' => e = .returned (.tuple #[.int .i32 (twoR lead b).1, .int .i32 (twoR lead b).2]) ∧ w = w' := by
  unfold twoR
  by_cases c1 : lead * 256 + b = 34914
  · rw [if_pos c1]
    go_enter Tryz.func202, Tryz.ntmps202
    go_wp2
    go_ret2
    exact ⟨rfl, rfl⟩
  by_cases c2 : lead * 256 + b = 34916
  · rw [if_neg c1, if_pos c2]
    go_enter Tryz.func202, Tryz.ntmps202
    go_wp2
    go_ret2
    exact ⟨rfl, rfl⟩
  by_cases c3 : lead * 256 + b = 34979
  · rw [if_neg c1, if_neg c2, if_pos c3]
    go_enter Tryz.func202, Tryz.ntmps202
    go_wp2
    go_ret2
    exact ⟨rfl, rfl⟩
  by_cases c4 : lead * 256 + b = 34981
  · rw [if_neg c1, if_neg c2, if_neg c3, if_pos c4]
    go_enter Tryz.func202, Tryz.ntmps202
    go_wp2
    go_ret2
    exact ⟨rfl, rfl⟩
  · rw [if_neg c1, if_neg c2, if_neg c3, if_neg c4]
    go_enter Tryz.func202, Tryz.ntmps202
    go_wp2
    go_ret2
    exact ⟨rfl, rfl⟩
noncomputable def signs8R (lead b : Int) : List UInt8 := if (twoR lead b).1 ≠ 0 then encR (twoR lead b).1 ++ encR (twoR lead b).2 else if oneR lead b ≠ 0 then encR (oneR lead b) else []
set_option maxRecDepth 100000 in
set_option maxHeartbeats 2000000 in
theorem signs8_any (lead b : Int) (w : World) (h0 : 0 ≤ lead) (h1 : lead ≤ 255) (h2 : 0 ≤ b) (h3 : b ≤ 255) (hS : oneR lead b = 0 ∨ Scal (oneR lead b)) :
    Calls Tryz.prog 164 #[.int .i64 lead, .int .i64 b] w fun e w' => e = .returned (.string ⟨(signs8R lead b).toArray⟩) ∧ Below w.heap.size w w' := by
  have k1 := fun w => two8_any lead b w h0 h1 h2 h3
  have k2 := fun w => one8_any lead b w h0 h1 h2 h3
  have hm : signs8R lead b = if (twoR lead b).1 ≠ 0 then encR (twoR lead b).1 ++ encR (twoR lead b).2 else if oneR lead b ≠ 0 then encR (oneR lead b) else [] := rfl
  by_cases ht : (twoR lead b).1 ≠ 0
  · have hs : Scal (twoR lead b).1 ∧ Scal (twoR lead b).2 ∧ (twoR lead b).1 ≠ 0 := by
      refine ⟨?_, ?_, ht⟩
      all_goals (unfold twoR; repeat' split)
      all_goals (unfold Scal; simp)
    rw [if_pos ht] at hm
    rw [hm]
    obtain ⟨s1, s2, s3⟩ := hs
    have k3 := fun w => refBytes_any _ s1 w
    have k4 := fun w => refBytes_any _ s2 w
    obtain ⟨p, q, hpq⟩ : ∃ p q, twoR lead b = (p, q) := ⟨_, _, rfl⟩
    rw [hpq] at k1 k3 k4 s3 s1 s2 ⊢
    simp only at k1 k3 k4 s3 s1 s2 ⊢
    have hpB : (p != 0) = true := by simpa using s3
    have e : (⟨(encR p ++ encR q).toArray⟩ : ByteArray) = ⟨(encR p).toArray⟩ ++ ⟨(encR q).toArray⟩ := by simp [ByteArray.ext_iff]
    rw [e]
    have hPl : (⟨(encR p).toArray⟩ : ByteArray).size ≤ 4 := (encR_len p).2
    have hQl : (⟨(encR q).toArray⟩ : ByteArray).size ≤ 4 := (encR_len q).2
    generalize (⟨(encR p).toArray⟩ : ByteArray) = P at *
    generalize (⟨(encR q).toArray⟩ : ByteArray) = Q at *
    have K1 := Lib.hid k1
    have K2 := Lib.hid k2
    have K3 := Lib.hid k3
    have K4 := Lib.hid k4
    clear k1 k2 k3 k4
    clear hm e ht s1 s2 hS hpq
    go_enter Tryz.func164, Tryz.ntmps164
    go_wp2_with (first
      | (go_at_call 202; refine (K1.out _).mono ?_; rintro e w1 ⟨rfl, rfl⟩)
      | (go_at_call 130; with_reducible refine (K3.out _).mono ?_; rintro e w1 ⟨rfl, hb1⟩)
      | (go_at_call 130; with_reducible refine (K4.out _).mono ?_; rintro e w2 ⟨rfl, hb2⟩))
    go_ret
    exact ⟨rfl, bt hb1 hb2⟩
  · have hz : (twoR lead b).1 = 0 := by simpa using ht
    rw [if_neg ht] at hm
    rw [hz] at k1
    generalize (twoR lead b).2 = z at *
    clear ht hz
    by_cases ho : oneR lead b = 0
    · rw [if_neg (by simpa using ho)] at hm
      rw [hm]
      rw [ho] at k2
      have K1 := Lib.hid k1
      have K2 := Lib.hid k2
      clear k1 k2
      clear hm hS ho
      go_enter Tryz.func164, Tryz.ntmps164
      go_wp2_with (first
        | (go_at_call 202; refine (K1.out _).mono ?_; rintro e w1 ⟨rfl, rfl⟩)
        | (go_at_call 203; refine (K2.out _).mono ?_; rintro e w1 ⟨rfl, hb1⟩))
      go_ret
      exact ⟨rfl, hb1⟩
    · rw [if_pos ho] at hm
      rw [hm]
      have k3 := fun w => refBytes_any _ (hS.resolve_left ho) w
      generalize oneR lead b = p at *
      have hpB : (p != 0) = true := by simpa using ho
      have K1 := Lib.hid k1
      have K2 := Lib.hid k2
      have K3 := Lib.hid k3
      clear k1 k2 k3
      clear hm hS
      go_enter Tryz.func164, Tryz.ntmps164
      go_wp2_with (first
        | (go_at_call 202; refine (K1.out _).mono ?_; rintro e w1 ⟨rfl, rfl⟩)
        | (go_at_call 203; refine (K2.out _).mono ?_; rintro e w1 ⟨rfl, hb1⟩)
        | (go_at_call 130; refine (K3.out _).mono ?_; rintro e w2 ⟨rfl, hb2⟩))
      go_ret
      exact ⟨rfl, bt hb1 hb2⟩
end Go.Proofs.YtogknbpmgflpgaaGreatDoor
/- Plain: the signs of two bytes in Big5, as the document has them, are the program's (layer 8). -/
namespace Go.Proofs.YtogknbpmgflpgaaGreatDoor
open Go.RowKit
set_option linter.unusedVariables false
set_option linter.unusedSimpArgs false

def conv (s : Int × Int × ByteArray) : Int × Int × List Int := (s.1, b5cell s.2.1, hexPts (bl s.2.2))
def oneP : List (Int × Int × List Int) → Int → Int → Int × Bool
  | [], _, _ => (0, false)
  | s :: l, lead, c => if s.1 = lead then (if c < s.2.1 then oneP l lead c else match s.2.2[(c - s.2.1).toNat]? with
      | some p => (p, true)
      | none => oneP l lead c) else oneP l lead c
theorem oneL_P (lead c : Int) : ∀ l, oneL l lead c = oneP (l.map conv) lead c := by
  intro l
  induction l with
  | nil => rfl
  | cons s l ih =>
    rw [oneL, List.map_cons, oneP]
    by_cases h : s.1 = lead
    · rw [if_pos h, if_pos (show (conv s).1 = lead from h)]
      by_cases hc : c < b5cell s.2.1
      · rw [atM_neg _ _ (by omega), if_neg (by decide), if_pos (show c < (conv s).2.1 from hc)]; exact ih
      · rw [if_neg (show ¬ c < (conv s).2.1 from hc)]
        obtain ⟨k, hk⟩ : ∃ k : Nat, c - b5cell s.2.1 = k := ⟨(c - b5cell s.2.1).toNat, by omega⟩
        have e1 : (c - (conv s).2.1).toNat = k := by show (c - b5cell s.2.1).toNat = k; omega
        have e2 : (conv s).2.2 = hexPts (bl s.2.2) := rfl
        rw [e1, hk, atM_pts, e2]
        cases (hexPts (bl s.2.2))[k]? with
        | none => exact ih
        | some p => rfl
    · rw [if_neg h, if_neg (show ¬ (conv s).1 = lead from h)]; exact ih
def okAt (L : List (Int × Int × List Int)) (R : List Int) (lead : Int) (c : Nat) : Bool :=
  decide (oneP L lead (c : Int) = optZ (q63 (R.getD c 0))) && (decide (q63 (R.getD c 0) = 0) || scalar (q63 (R.getD c 0)))
set_option maxRecDepth 100000 in
theorem ok_rows : [(136 : Int), 161, 163, 164, 165].all (fun lead => (List.range 157).all fun c => okAt (bSpans.map conv) (pts (bl (rowT lead))) lead c) = true := by decide +kernel
theorem oneL_none (lead c : Int) : ∀ l : List (Int × Int × ByteArray), (∀ s ∈ l, s.1 ≠ lead) → oneL l lead c = (0, false) := by
  intro l
  induction l with
  | nil => intro _; rfl
  | cons s l ih =>
    intro h
    rw [oneL, if_neg (h s (List.mem_cons_self ..))]
    exact ih fun t ht => h t (List.mem_cons_of_mem _ ht)
theorem bSpansOf_lead (S : Nat → ByteArray) : (bSpansOf S).all (fun s => s.1 == 136 || s.1 == 161 || s.1 == 163 || s.1 == 164 || s.1 == 165) = true := by rfl
theorem oneM_eq (lead b : Int) : oneM lead b = optZ (oneR lead b) ∧ (oneR lead b = 0 ∨ Scal (oneR lead b)) := by
  unfold oneM oneR
  obtain ⟨c0, c1⟩ := b5cell_bd b
  by_cases hc : b5cell b < 0
  · rw [if_pos hc, if_pos hc]; exact ⟨rfl, .inl rfl⟩
  rw [if_neg hc, if_neg hc]
  by_cases hl : lead = 136 ∨ lead = 161 ∨ lead = 163 ∨ lead = 164 ∨ lead = 165
  · have h := ok_rows
    rw [List.all_eq_true] at h
    have h1 := h lead (by rcases hl with h | h | h | h | h <;> (subst h; decide))
    rw [List.all_eq_true] at h1
    have h2 := h1 (b5cell b).toNat (List.mem_range.2 (by omega))
    unfold okAt at h2
    rw [Bool.and_eq_true, Bool.or_eq_true, decide_eq_true_eq, decide_eq_true_eq, show ((b5cell b).toNat : Int) = b5cell b from by omega] at h2
    rw [oneL_P]
    exact ⟨h2.1, h2.2.imp id scal_of⟩
  · have e : rowT lead = ⟨#[]⟩ := by
      unfold rowT
      rw [if_neg (by omega), if_neg (by omega), if_neg (by omega), if_neg (by omega), if_neg (by omega)]
    rw [e, oneL_none]
    · exact ⟨rfl, .inl rfl⟩
    · intro s hs he
      have h := List.all_eq_true.1 (bSpansOf_lead bStr) s hs
      simp only [Bool.or_eq_true, beq_iff_eq] at h
      omega
theorem one_sp : oneM 136 98 = (0, false) ∧ oneM 136 100 = (0, false) ∧ oneM 136 163 = (0, false) ∧ oneM 136 165 = (0, false) := by
  refine ⟨?_, ?_, ?_, ?_⟩ <;> decide +kernel
theorem textM_one (p : Int) (h : Scal p) : textM [p] = (encR p, true) := by
  have hs : scalar p = true := by unfold scalar; exact decide_eq_true h
  simp [textM, hs]
theorem signs8_eq (lead b : Int) (h0 : 0 ≤ lead) (h1 : lead ≤ 255) (h2 : 0 ≤ b) (h3 : b ≤ 255) : signs8R lead b = (bSignsM lead b).1 := by
  obtain ⟨o1, o2, o3, o4⟩ := one_sp
  by_cases hs : lead = 136 ∧ (b = 98 ∨ b = 100 ∨ b = 163 ∨ b = 165)
  · obtain ⟨rfl, hb⟩ := hs
    rcases hb with rfl | rfl | rfl | rfl
    · unfold bSignsM; rw [o1]; decide +kernel
    · unfold bSignsM; rw [o2]; decide +kernel
    · unfold bSignsM; rw [o3]; decide +kernel
    · unfold bSignsM; rw [o4]; decide +kernel
  · have e1 : twoR lead b = (0, 0) := by
      unfold twoR
      rw [if_neg (by omega), if_neg (by omega), if_neg (by omega), if_neg (by omega)]
    have e2 : twosL bTwos lead b = ([], false) := by
      unfold bTwos
      rw [twosL, if_neg (by intro h; exact hs ⟨h.1, .inl h.2⟩), twosL, if_neg (by intro h; exact hs ⟨h.1, .inr (.inl h.2)⟩), twosL, if_neg (by intro h; exact hs ⟨h.1, .inr (.inr (.inl h.2))⟩), twosL, if_neg (by intro h; exact hs ⟨h.1, .inr (.inr (.inr h.2))⟩), twosL]
    obtain ⟨e3, e4⟩ := oneM_eq lead b
    unfold signs8R bSignsM
    rw [e1, e2, e3]
    unfold optZ
    by_cases hz : oneR lead b = 0
    · rw [if_pos hz, if_neg (by simp), if_neg (by simpa using hz), if_neg (by simp)]
    · rw [if_neg hz, if_neg (by simp), if_pos hz, if_pos rfl, textM_one _ (e4.resolve_left hz)]
end Go.Proofs.YtogknbpmgflpgaaGreatDoor
