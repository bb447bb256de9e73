/- Walk: ref09.Encode in the charsets of two bytes. -/
import Derived.Test.YtmpndnebjahdjaaGreatDoorUg
namespace Go.Proofs.YtmpndnebjahdjaaGreatDoor
open Go.RowKit
set_option linter.unusedVariables false
set_option linter.unusedSimpArgs false

noncomputable def E9 (c : Int) : Tok := if c = 6 then tok5 else tokB (twoB c)
theorem bB_code (p : Int) (q : Option Int) (r : List Int) (hq : r.head? = q) (hp : 128 ≤ p) : bBytesM (p :: r) = (codeB (codeQ p q).1, (codeQ p q).2) := by
  have hbd := codeQ_bd p q hp
  cases hb : btwoL bTwos p q with
  | some c =>
    have e : codeQ p q = (34816 + c, 2) := by unfold codeQ; rw [hb]
    rw [e] at hbd ⊢
    show (match btwoL bTwos p r.head? with | some c => (bigL (136 * 256 + c) 2, (2 : Int)) | none => bfindL bSpans p) = _
    rw [hq, hb]
    have h0 : 0 ≤ 34816 + c := by rcases hbd with h | h; exact absurd h.2 (by simp); exact h.1
    unfold codeB
    rw [if_neg (show ¬ 34816 + c < 0 from by omega)]
    rfl
  | none =>
    rw [bBytes_one p r (by rw [hq]; exact hb), bfindL_Q _ _ bSpans_hex]
    show bV (bQ p) = _
    cases hQ : bQ p with
    | none =>
      have e : codeQ p q = (-1, 0) := by unfold codeQ; rw [hb]; simp only; rw [hQ]
      rw [e]; rfl
    | some c =>
      have e : codeQ p q = (c, 1) := by unfold codeQ; rw [hb]; simp only; rw [hQ]
      rw [e] at hbd ⊢
      have h0 : 0 ≤ c := by rcases hbd with h | h; exact absurd h.2 (by simp); exact h.1
      unfold codeB
      rw [if_neg (show ¬ c < 0 from by omega)]
      rfl
theorem first_n (c p : Int) (r : List Int) : (first9 c p r.head?).2 = 0 ∨ (first9 c p r.head?).2 = 1 ∨ ((first9 c p r.head?).2 = 2 ∧ r ≠ []) := by
  unfold first9
  split
  · exact .inr (.inl rfl)
  · split
    · next hp _ =>
      have hbd := codeQ_bd p r.head? (by omega)
      simp only
      rcases hbd with h | h
      · exact .inl h.2
      · rcases h.2.2 with h' | h'
        · exact .inr (.inl h')
        · refine .inr (.inr ⟨h', ?_⟩)
          rintro rfl
          unfold codeQ at h'
          rw [btwo_none p _ ⟨by simp, by simp⟩] at h'
          simp only at h'
          cases hQ : bQ p with
          | none => rw [hQ] at h'; exact absurd h' (by simp)
          | some c => rw [hQ] at h'; exact absurd h' (by simp)
    · simp only
      split
      · exact .inl rfl
      · exact .inr (.inl rfl)
theorem encL_one (p : Int) : encL [p] = encR p := by simp [encL]
theorem encL_nil (r : List Int) (h : encL r = []) : r = [] := by
  cases r with
  | nil => rfl
  | cons p r => rw [encL_cons] at h; exact absurd h (encR_ne p _)
/-- a reader of two bytes reads what comes first. -/
theorem first_tok (c p : Int) (r : List Int) (hp : Scal p) (hr : ∀ q ∈ r, Scal q) : E9 c (encL (p :: r)) = if (first9 c p r.head?).2 = 0 then none else some ((first9 c p r.head?).1, (encL ((p :: r).take (first9 c p r.head?).2.toNat)).length) := by
  have hp0 := hp.1
  have hpp : ((p.toNat : Nat) : Int) = p := by omega
  unfold E9
  rw [encL_cons]
  by_cases h6 : c = 6
  · rw [if_pos h6, tok5_eq _ p.toNat (encR p).length (dec_encR p hp _), List.drop_left, hpp]
    by_cases hlow : p < 128
    · have e : first9 c p r.head? = ([UInt8.ofNat p.toNat], 1) := by unfold first9; rw [if_pos hlow]
      rw [e, if_pos (show p.toNat < 128 from by omega), if_neg (by simp)]
      show _ = some ([UInt8.ofNat p.toNat], (encL [p]).length)
      rw [encL_one]
    · have e : first9 c p r.head? = (codeB (codeQ p r.head?).1, (codeQ p r.head?).2) := by unfold first9; rw [if_neg hlow, if_pos h6]
      have hn := first_n c p r
      rw [e] at hn ⊢
      rw [if_neg (show ¬ p.toNat < 128 from by omega)]
      have eB : bBytesM (if encL r = [] then [p] else [p, ((dec (encL r)).1 : Int)]) = (codeB (codeQ p r.head?).1, (codeQ p r.head?).2) := by
        cases r with
        | nil => rw [if_pos (show encL [] = [] from rfl)]; exact bB_code p none [] rfl (by omega)
        | cons q r =>
          rw [if_neg (by rw [encL_cons]; exact encR_ne q _), encL_cons, (dec_head q (hr q (by simp)) (encL r)).2.2]
          exact bB_code p (some q) [q] rfl (by omega)
      rw [eB]
      simp only at hn ⊢
      rcases hn with h | h | ⟨h, hne⟩
      · rw [h, if_pos rfl, if_pos rfl]
      · rw [h, if_neg (by decide), if_neg (by decide), if_neg (by decide)]
        show _ = some (_, (encL [p]).length)
        rw [encL_one]
      · rw [h, if_neg (by decide), if_pos rfl, if_neg (by decide)]
        cases r with
        | nil => exact absurd rfl hne
        | cons q r =>
          show _ = some (_, (encL [p, q]).length)
          rw [encL_cons q r]
          unfold dec0
          rw [if_neg (encR_ne q _), (dec_head q (hr q (by simp)) (encL r)).2.1, encL_cons, encL_one, List.length_append]
  · rw [if_neg h6]
    unfold tokB
    rw [dec_encR p hp, hpp]
    by_cases hlow : p < 128
    · have e : first9 c p r.head? = ([UInt8.ofNat p.toNat], 1) := by unfold first9; rw [if_pos hlow]
      rw [e, if_pos (show p.toNat < 128 from by omega), if_neg (by simp)]
      show _ = some ([UInt8.ofNat p.toNat], (encL [p]).length)
      rw [encL_one]
    · have e : first9 c p r.head? = (twoB c p, if twoB c p = [] then 0 else 1) := by unfold first9; rw [if_neg hlow, if_neg h6]
      rw [e, if_neg (show ¬ p.toNat < 128 from by omega)]
      by_cases hB : twoB c p = []
      · rw [if_pos hB]; simp only; rw [if_pos hB, if_pos rfl]
      · rw [if_neg hB]; simp only; rw [if_neg hB, if_neg (by decide)]
        show _ = some (twoB c p, (encL [p]).length)
        rw [encL_one]
theorem first_len (c p : Int) (q : Option Int) (h4 : c = 4 ∨ c = 5 ∨ c = 6) : (first9 c p q).1.length ≤ 2 := by
  have hb : ∀ n, (bigL n 2).length = 2 := fun n => bigL_length n 2
  have hc : ∀ n, (codeB n).length ≤ 2 := by intro n; unfold codeB; split; simp; rw [hb]; exact Nat.le_refl _
  unfold first9
  split
  · simp
  · split
    · exact hc _
    · unfold twoB
      simp only
      split
      · unfold jBytesM; split; rw [hb]; exact Nat.le_refl _; simp
      · unfold wBytesM
        split
        · rw [hb]; exact Nat.le_refl _
        · cases otherCodeM p with
          | some c => simp only; rw [hb]; exact Nat.le_refl _
          | none => simp
end Go.Proofs.YtmpndnebjahdjaaGreatDoor
/- Walk: ref09.Encode. -/
namespace Go.Proofs.YtmpndnebjahdjaaGreatDoor
open Go.RowKit
set_option linter.unusedVariables false
set_option linter.unusedSimpArgs false

theorem row_part {w : World} {a : Option Addr} {ps : List Int} (hc : ∀ (j : Nat) (x : Value), (icells ps)[j]? = some x → ∃ g o, a = some ⟨g, o, none⟩ ∧ w.cell? ⟨g, o + j, none⟩ = some x) (g o i m N C : Nat) (ha : a = some ⟨g, o, none⟩) :
    Row w (.slice (some ⟨g, o + i, none⟩) N C) N (icells ((ps.drop i).take m)) := by
  refine ⟨_, _, rfl, fun j x h => ⟨g, o + i, rfl, ?_⟩⟩
  have hj : (icells ps)[i + j]? = some x := by
    unfold icells at h ⊢
    rw [List.getElem?_map] at h ⊢
    have hjm : j < ((ps.drop i).take m).length := by
      rcases Nat.lt_or_ge j ((ps.drop i).take m).length with h' | h'
      · exact h'
      · rw [List.getElem?_eq_none h'] at h; cases h
    rw [List.length_take] at hjm
    rw [List.getElem?_take_of_lt (by omega), List.getElem?_drop] at h
    exact h
  obtain ⟨g', o', e, hx⟩ := hc (i + j) x hj
  rw [ha] at e
  cases e
  rw [Nat.add_assoc]
  exact hx
theorem own_cap {w : World} {B n cap : Nat} {a : Option Addr} {ps : List Int} (h : OwnI w B (.slice a n cap) ps) : n ≤ cap ∧ cap ≤ maxLen := by
  obtain ⟨_, h⟩ := h
  rcases h with ⟨h, _⟩ | ⟨g, cap', cur, h, _, _, h1, h2, _⟩
  · cases h; exact ⟨Nat.le_refl _, Nat.zero_le _⟩
  · cases h; exact ⟨h1, h2⟩
/-- what the reference answers. -/
def enc9R (r : List UInt8 × Option Nat) : Value := .tuple #[.string ⟨r.1.toArray⟩, .int .i64 (match r.2 with | none => 0 | some _ => 6), .int .i64 (atI r.2)]
def En9Post (r : Value) (w : World) (e : Ending) (w' : World) : Prop := e = .returned r ∧ Below w.heap.size w w'
set_option maxRecDepth 100000 in
set_option maxHeartbeats 8000000 in
theorem enc9_two (c : Int) (t : ByteArray) (ps : List Int) (w : World) (hc : c = 4 ∨ c = 5 ∨ c = 6) (ht : t.size ≤ 100000) (hps : bl t = encL ps) (hsc : ∀ p ∈ ps, Scal p) :
    Calls Tryz.prog 13 #[.int .i64 c, .string t] w (En9Post (enc9R (decT (E9 c) (bl t))) w) := by
  have k1 := fun w => refPoints_any t w (by omega)
  unfold RPts RPtsS at k1
  have hs1 : (scanL (bl t)).2 = none := by rw [hps, scanL_encL ps hsc]
  have hpt : pts (bl t) = ps := by rw [hps, pts_encL' ps hsc]
  rw [hs1, hpt] at k1
  simp only at k1
  have hpl : ps.length ≤ t.size := by rw [← hpt, ← bl_length]; exact pts_len _
  obtain ⟨R, hR⟩ : ∃ R, R = decT (E9 c) (bl t) := ⟨_, rfl⟩
  rw [← hR]
  have hR2 : runT (E9 c) (encL ps).length (encL ps) 0 [] = R := by rw [hR, hps]; rfl
  have K2 : Hid (∀ v N p (rest : List Int) w, N = rest.length + 1 → Row w v N (icells (p :: rest)) → Scal p → rest.length ≤ 1000000 → Calls Tryz.prog 51 #[.int .i64 c, v] w (FiPost (first9 c p rest.head?) w)) :=
    Lib.hid (fun v N p rest w hN hr hp hl => by subst hN; exact first9_any c v p rest w hc hr hp hl)
  have K3 : Hid (∀ v N (us : List Int) w, N = us.length → Row w v N (icells us) → (∀ p ∈ us, Scal p) → us.length ≤ 1000 → Calls Tryz.prog 52 #[v] w fun e w' => e = .returned (.string ⟨(encL us).toArray⟩) ∧ Below w.heap.size w w') :=
    Lib.hid (fun v N us w hN hr hs hl => by subst hN; exact text2_any v us w hr hs hl)
  have HFL := Lib.hid (fun p q => first_len c p q hc)
  have hc0 : 4 ≤ c := by omega
  have hc1 : c ≤ 6 := by omega
  obtain ⟨n, hn⟩ : ∃ n, n = ps.length := ⟨_, rfl⟩
  have hnI : (n : Int) ≤ 100000 := by omega
  have K1 := Lib.hid k1
  have HR := Lib.hid hR
  have HR2 := Lib.hid hR2
  have HS := Lib.hid hsc
  have HPS := Lib.hid hps
  have HS1 := Lib.hid hs1
  have HPT := Lib.hid hpt
  have HN := Lib.hid hn
  have HPL := Lib.hid hpl
  clear k1 hR hR2 hsc hps hs1 hpt hn hpl
  have d1 : decide (c < 0) = false := decide_eq_false (by omega)
  have d2 : decide (9 < c) = false := decide_eq_false (by omega)
  have d3 : decide (c ≤ 3) = false := decide_eq_false (by omega)
  have d3' : decide (3 < c) = true := decide_eq_true (by omega)
  have d4 : decide (8 ≤ c) = false := decide_eq_false (by omega)
  have d4' : decide (c < 8) = true := decide_eq_true (by omega)
  have d5 : (c == 7) = false := by simp; omega
  clear ht hc
  go_enter Tryz.func13, Tryz.ntmps13
  go_wp2_with (go_at_call 48; refine (K1.out _).mono ?_; rintro e w1 ⟨⟨v, rfl, hown⟩, hb1⟩)
  have hrow := hown.row
  rw [← HN.out] at hrow
  obtain ⟨a, cap, rfl, hcc⟩ := hrow
  have HCC := Lib.hid hcc
  have HB1 := Lib.hid hb1
  obtain ⟨hcap1, hcap2⟩ := own_cap hown
  clear hcc hown hb1
  go_wp2_with fail
  go_loopw [11, 12, 13] (fun tv av iv wr => ∃ (f i q : Nat) (T : ByteArray), iv = .int .i64 (i : Int) ∧ tv = .string T ∧ av = .int .i64 (q : Int) ∧ (i : Int) ≤ n ∧ (T.size : Int) ≤ 2 * i ∧ (q : Int) ≤ 4 * i ∧ Hid ((encL (ps.drop i)).length ≤ f) ∧ Hid (runT (E9 c) f (encL (ps.drop i)) q (bl T) = R) ∧ Below w1.heap.size w1 wr) (fun _ _ iv _ => n - (intOf iv).toNat)
  case atStart => exact ⟨(encL ps).length, 0, 0, ⟨#[]⟩, rfl, rfl, rfl, by omega, by decide, by omega, Lib.hid (Nat.le_refl _), HR2, Below.refl _ _⟩
  case round =>
    obtain ⟨f, i, q, T, rfl, rfl, rfl, hi, hT, hq, hf, hQ, hbel⟩ := hrel
    by_cases hlt : (i : Int) < n
    · obtain ⟨p, hp⟩ := at_some ps i (by rw [← HN.out]; omega)
      obtain ⟨g, o, rfl, hcell0⟩ := HCC.out i (.int .i32 p) (by simp [icells, hp])
      have hdr : ps.drop i = p :: ps.drop (i + 1) := by
        obtain ⟨h1, h2⟩ := List.getElem?_eq_some_iff.1 hp
        rw [List.drop_eq_getElem_cons h1, h2]
      have hpS := HS.out p (List.mem_of_getElem? hp)
      have hrS : ∀ x ∈ ps.drop (i + 1), Scal x := fun x hx => HS.out x (List.mem_of_mem_drop hx)
      have htok := first_tok c p (ps.drop (i + 1)) hpS hrS
      rw [← hdr] at htok
      have hfn := first_n c p (ps.drop (i + 1))
      have hfl := HFL.out p (ps.drop (i + 1)).head?
      have hne : encL (ps.drop i) ≠ [] := by rw [hdr, encL_cons]; exact encR_ne p _
      have hlp : 0 < (encL (ps.drop i)).length := List.length_pos_iff.2 hne
      obtain ⟨f, rfl⟩ : ∃ z, f = z + 1 := ⟨f - 1, by have := hf.out; omega⟩
      have hrl : (ps.drop (i + 1)).length = n - i - 1 := by rw [List.length_drop, ← HN.out]; omega
      have k2 := fun v N w hN hr => K2.out v N p (ps.drop (i + 1)) w hN hr hpS (by rw [hrl]; omega)
      have hRow1 : ∀ wz, Below w1.heap.size w1 wz → ∀ m N C, Row wz (.slice (some ⟨g, o + i, none⟩) N C) N (icells ((ps.drop i).take m)) := fun wz hb m N C =>
        row_part (fun j x h => by obtain ⟨g', o', e, hx⟩ := HCC.out j x h; exact ⟨g', o', e, kc hb hx⟩) g o i m N C rfl
      have hRow0 : ∀ N C, Row wr (.slice (some ⟨g, o + i, none⟩) N C) N (icells (p :: ps.drop (i + 1))) := fun N C => by
        have h := hRow1 wr hbel (ps.drop i).length N C
        rw [List.take_length, hdr] at h
        exact h
      obtain ⟨F, hF⟩ : ∃ F, F = first9 c p (ps.drop (i + 1)).head? := ⟨_, rfl⟩
      rw [← hF] at htok hfn hfl k2
      obtain ⟨fb, fm⟩ := F
      simp only at htok hfn hfl
      unfold FiPost at k2
      simp only at k2
      obtain ⟨V, hV⟩ : ∃ V : ByteArray, V = ⟨fb.toArray⟩ := ⟨_, rfl⟩
      have hVb : bl V = fb := by rw [hV]
      have hVs : V.size ≤ 2 := by rw [← bl_length, hVb]; exact hfl
      rw [← hV] at k2
      rcases hfn with h0 | h12
      · subst h0
        rw [if_pos rfl] at htok
        have e1 := runT_none f _ q (bl T) hne htok
        rw [hQ.out] at e1
        have K2' := Lib.hid k2
        have E1 := Lib.hid e1
        have HROW0 := Lib.hid hRow0
        have HROW1 := Lib.hid hRow1
        have HF := Lib.hid hF
        have HV := Lib.hid hV
        have HVB := Lib.hid hVb
        clear k2 e1 hRow0 hRow1 hF hV hVb
        clear hp hdr hpS hrS htok hfl hne hlp hQ hcell0
        go_wp2_with fail
        refine (K2'.out (.slice (some ⟨g, o + i, none⟩) (n - i) (cap - i)) (n - i) wr ?_ (HROW0.out _ _)).mono ?_
        · rw [hrl]; omega
        rintro e w2 ⟨rfl, hb2⟩
        go_wp2_with fail
        refine bodyPost_ret (v := .tuple #[.string ⟨#[]⟩, .int .i64 6, .int .i64 (q : Int)]) (by simp [results, Tryz.results13, go_sem]) rfl ?_
        exact (show En9Post _ _ _ _ from ⟨by rw [E1.out]; rfl, HB1.out.trans ((bt hbel hb2).mono HB1.out.size)⟩)
      · have hm12 : ∃ m : Nat, fm = (m : Int) ∧ (m = 1 ∨ m = 2) ∧ i + m ≤ n := by
          rcases h12 with h | ⟨h, hne2⟩
          · exact ⟨1, h, .inl rfl, by omega⟩
          · have : 0 < (ps.drop (i + 1)).length := List.length_pos_iff.2 hne2
            exact ⟨2, h, .inr rfl, by omega⟩
        obtain ⟨m, rfl, hm, him⟩ := hm12
        rw [if_neg (by omega), Int.toNat_natCast] at htok
        have e1 := runT_some f _ q (bl T) fb _ hne htok
        rw [hQ.out] at e1
        obtain ⟨us, hus⟩ : ∃ us, us = (ps.drop i).take m := ⟨_, rfl⟩
        have hspl : encL (ps.drop i) = encL us ++ encL (ps.drop (i + m)) := by
          rw [hus, ← encL_append, ← List.drop_drop, List.take_append_drop]
        rw [← hus, hspl, List.drop_left, ← hVb] at e1
        have husl : us.length = m := by rw [hus, List.length_take, List.length_drop, ← HN.out]; omega
        have husS : ∀ x ∈ us, Scal x := fun x hx => HS.out x (List.mem_of_mem_drop (List.mem_of_mem_take (by rw [hus] at hx; exact hx)))
        have hLs : (encL us).length ≤ 4 * m := by rw [← husl]; exact flat_len us
        have hL1 : 1 ≤ (encL us).length := by
          cases us with
          | nil => simp at husl; omega
          | cons x us => rw [encL_cons, List.length_append]; have := (encR_len x).1; omega
        have hff := hf.out
        rw [hspl, List.length_append] at hff
        have hf2 : (encL (ps.drop (i + m))).length ≤ f := by omega
        obtain ⟨U, hU⟩ : ∃ U : ByteArray, U = ⟨(encL us).toArray⟩ := ⟨_, rfl⟩
        have hUs : U.size = (encL us).length := by rw [hU]; simp [ByteArray.size]
        have k3 := fun v w hr => K3.out v m us w husl.symm hr husS (by omega)
        rw [← hU] at k3
        rw [← hUs] at e1 hLs
        have e2 : runT (E9 c) f (encL (ps.drop (i + m))) (q + U.size) (bl (T ++ V)) = R := by rw [e1]; simp [bl]
        have hTV : ((T ++ V).size : Int) ≤ 2 * (i : Int) + 2 * m := by
          have e0 : bl (T ++ V) = bl T ++ bl V := by simp [bl]
          rw [← bl_length, e0, List.length_append, bl_length, bl_length]; omega
        have hRowU := fun wz hb N C => hRow1 wz hb m N C
        rw [← hus] at hRowU
        have K2' := Lib.hid k2
        have E2 := Lib.hid e2
        have HROW0 := Lib.hid hRow0
        have HROWU := Lib.hid hRowU
        have HF := Lib.hid hF
        have HV := Lib.hid hV
        have HVB := Lib.hid hVb
        have K3' := Lib.hid k3
        have HF2 := Lib.hid hf2
        have HTV := Lib.hid hTV
        have HU := Lib.hid hU
        clear k2 e2 hRow0 hRowU hF hV hVb k3 hf2 hTV hU
        clear hp hdr hpS hrS htok hfl hne hlp hQ hcell0 e1 hspl hus husS hff h12 husl hUs hRow1
        rcases hm with rfl | rfl
        all_goals
          go_wp2_with fail
          refine (K2'.out (.slice (some ⟨g, o + i, none⟩) (n - i) (cap - i)) (n - i) wr ?_ (HROW0.out _ _)).mono ?_
          · rw [hrl]; omega
          rintro e w2 ⟨rfl, hb2⟩
          go_wp2_with fail
          refine (K3'.out _ _ (HROWU.out w2 (bt hbel hb2) _ _)).mono ?_
          rintro e w3 ⟨rfl, hb3⟩
          go_wp2_with fail
          go_roundw
          case rel => exact ⟨f, i + _, q + U.size, T ++ V, by go_num, rfl, by go_num, by omega, by have := HTV.out; omega, by omega, HF2, E2, bt (bt hbel hb2) hb3⟩
          case measure => simp [intOf]; omega
    · have hin : i = n := by omega
      have e1 := hQ.out
      rw [List.drop_of_length_le (by rw [← HN.out]; omega)] at e1
      have e2 : (bl T, none) = R := by rw [← e1]; exact (runT_nil f q (bl T)).symm
      have E2 := Lib.hid e2
      clear hQ hlt e1 e2
      subst hin
      go_wp2
      refine bodyPost_ret (v := .tuple #[.string T, .int .i64 0, .int .i64 0]) (by simp [results, Tryz.results13, go_sem]) rfl ?_
      exact (show En9Post _ _ _ _ from ⟨by rw [← E2.out]; rfl, HB1.out.trans (hbel.mono HB1.out.size)⟩)
end Go.Proofs.YtmpndnebjahdjaaGreatDoor
/- ref09.Encode; a valid text is made of signs; charset.Encode of no charset. -/
namespace Go.Proofs.YtmpndnebjahdjaaGreatDoor
open Go.RowKit
set_option linter.unusedVariables false
set_option linter.unusedSimpArgs false

theorem eqU (z : Int) (b : UInt8) (h : z = (b.toNat : Int)) : z.toNat.toUInt8 = b := by
  have := b.toNat_lt
  apply UInt8.toNat_inj.1
  rw [u8n z (by omega) (by omega)]
  omega
theorem encR_of (v : Int) (zs : List Int) (bs : List UInt8) (hz : Lib.encodeRuneZ v = zs) (h : zs = bs.map fun b => (b.toNat : Int)) : encR v = bs := by
  unfold encR Lib.encodeRune
  rw [hz, h, List.map_map]
  conv => rhs; rw [← List.map_id bs]
  apply List.map_congr_left
  intro b _
  exact eqU _ b rfl
/-- a sign that is read stands as its own bytes. -/
theorem dec_enc (l : List UInt8) (hne : l ≠ []) (hb : badDec l = false) : l.take (dec l).2 = encR (dec l).1 ∧ Scal (dec l).1 := by
  match l, hne, hb with
  | b0 :: r0, _, hb =>
    have h0 := b0.toNat_lt
    by_cases c0 : b0.toNat < 128
    · rw [dec_plain b0 r0 c0]
      refine ⟨?_, by unfold Scal; simp only; omega⟩
      exact (encR_of _ [(b0.toNat : Int)] [b0] (Lib.encodeRuneZ_one (by omega) (by omega)) rfl).symm
    have E : dec (b0 :: r0) = Lib.decodeN (b0 :: r0).length b0.toNat ((b0 :: r0).getD 1 0).toNat ((b0 :: r0).getD 2 0).toNat ((b0 :: r0).getD 3 0).toNat := rfl
    unfold Lib.decodeN at E
    rw [if_neg c0] at E
    have bad : ¬ dec (b0 :: r0) = (65533, 1) := fun h => by rw [(dec_bad_iff _).2 h] at hb; cases hb
    by_cases c1 : b0.toNat / 32 = 6 ∧ (1 < (b0 :: r0).length ∧ ((b0 :: r0).getD 1 0).toNat / 64 = 2)
    · rw [if_pos c1] at E
      obtain ⟨d0, d1, d2⟩ := c1
      match r0, d1, d2, E, bad with
      | b1 :: r1, _, d2, E, bad =>
        have h1 := b1.toNat_lt
        have g1 : (b0 :: b1 :: r1).getD 1 0 = b1 := rfl
        rw [g1] at d2 E
        by_cases c2 : b0.toNat % 32 * 64 + b1.toNat % 64 ≥ 128
        · rw [if_pos c2] at E
          rw [E]
          refine ⟨?_, by unfold Scal; simp only; omega⟩
          refine (encR_of _ _ [b0, b1] (Lib.encodeRuneZ_two (by simp only; omega) (by simp only; omega)) ?_).symm
          simp only [List.map_cons, List.map_nil]
          congr 1
          · omega
          · congr 1; omega
        · rw [if_neg c2] at E; exact absurd E bad
    rw [if_neg c1] at E
    by_cases c3 : b0.toNat / 16 = 14 ∧ (1 < (b0 :: r0).length ∧ ((b0 :: r0).getD 1 0).toNat / 64 = 2) ∧ (2 < (b0 :: r0).length ∧ ((b0 :: r0).getD 2 0).toNat / 64 = 2)
    · rw [if_pos c3] at E
      obtain ⟨d0, ⟨d1, d2⟩, d3, d4⟩ := c3
      match r0, d1, d2, d3, d4, E, bad with
      | [b1], _, _, d3, _, _, _ => simp at d3
      | b1 :: b2 :: r1, _, d2, _, d4, E, bad =>
        have h1 := b1.toNat_lt
        have h2 := b2.toNat_lt
        have g1 : (b0 :: b1 :: b2 :: r1).getD 1 0 = b1 := rfl
        have g2 : (b0 :: b1 :: b2 :: r1).getD 2 0 = b2 := rfl
        rw [g1] at d2 E
        rw [g2] at d4 E
        split at E
        · next c2 =>
          rw [E]
          refine ⟨?_, by unfold Scal; simp only; omega⟩
          refine (encR_of _ _ [b0, b1, b2] (Lib.encodeRuneZ_three (by simp only; omega)) ?_).symm
          simp only [List.map_cons, List.map_nil]
          congr 1
          · omega
          · congr 1
            · omega
            · congr 1; omega
        · exact absurd E bad
    rw [if_neg c3] at E
    by_cases c4 : b0.toNat / 8 = 30 ∧ (1 < (b0 :: r0).length ∧ ((b0 :: r0).getD 1 0).toNat / 64 = 2) ∧ (2 < (b0 :: r0).length ∧ ((b0 :: r0).getD 2 0).toNat / 64 = 2) ∧ (3 < (b0 :: r0).length ∧ ((b0 :: r0).getD 3 0).toNat / 64 = 2)
    · rw [if_pos c4] at E
      have hr : ∃ b1 b2 b3 r1, r0 = b1 :: b2 :: b3 :: r1 := by
        have d5 := c4.2.2.2.1
        cases r0 with
        | nil => simp at d5
        | cons b1 r0 =>
          cases r0 with
          | nil => simp at d5
          | cons b2 r0 =>
            cases r0 with
            | nil => simp at d5
            | cons b3 r0 => exact ⟨b1, b2, b3, r0, rfl⟩
      obtain ⟨b1, b2, b3, r1, rfl⟩ := hr
      have g1 : (b0 :: b1 :: b2 :: b3 :: r1).getD 1 0 = b1 := rfl
      have g2 : (b0 :: b1 :: b2 :: b3 :: r1).getD 2 0 = b2 := rfl
      have g3 : (b0 :: b1 :: b2 :: b3 :: r1).getD 3 0 = b3 := rfl
      rw [g1, g2, g3] at c4 E
      have h1 := b1.toNat_lt
      have h2 := b2.toNat_lt
      have h3 := b3.toNat_lt
      have d0 := c4.1
      have d2 := c4.2.1.2
      have d4 := c4.2.2.1.2
      have d6 := c4.2.2.2.2
      clear c4 c3 c1
      generalize hv : b0.toNat % 8 * 262144 + b1.toNat % 64 * 4096 + b2.toNat % 64 * 64 + b3.toNat % 64 = v at E
      by_cases c2 : v ≥ 65536 ∧ (v < 55296 ∨ (57344 ≤ v ∧ v ≤ 1114111))
      · rw [if_pos c2] at E
        rw [E]
        refine ⟨?_, by unfold Scal; simp only; omega⟩
        refine (encR_of _ _ [b0, b1, b2, b3] (Lib.encodeRuneZ_four (by simp only; omega) (by simp only; omega)) ?_).symm
        simp only [List.map_cons, List.map_nil]
        congr 1
        · omega
        · congr 1
          · omega
          · congr 1
            · omega
            · congr 1; omega
      · rw [if_neg c2] at E; exact absurd E bad
    · rw [if_neg c4] at E; exact absurd E bad
theorem scan_enc : ∀ (f : Nat) (l : List UInt8) (a n : Nat), l.length ≤ f → (scanF f l a n).2 = none → l = encL (ptsF f l) ∧ ∀ p ∈ ptsF f l, Scal p := by
  intro f
  induction f with
  | zero =>
    intro l a n hl _
    obtain rfl : l = [] := List.eq_nil_of_length_eq_zero (by omega)
    exact ⟨rfl, fun p hp => by cases hp⟩
  | succ f ih =>
    intro l a n hl h
    rw [ptsF]
    by_cases hne : l = []
    · subst hne; exact ⟨rfl, fun p hp => by cases hp⟩
    · rw [if_neg hne]
      cases hb : badDec l with
      | true => rw [scanF_bad f l a n hne hb] at h; cases h
      | false =>
        rw [scanF_step f l a n hne hb] at h
        have hp := dec_pos l
        have hlp : 0 < l.length := List.length_pos_iff.2 hne
        obtain ⟨h1, h2⟩ := ih (l.drop (dec l).2) _ _ (by rw [List.length_drop]; omega) h
        obtain ⟨e1, e2⟩ := dec_enc l hne hb
        refine ⟨?_, fun p hp => ?_⟩
        · rw [encL_cons, ← h1, ← e1, List.take_append_drop]
        · rcases List.mem_cons.1 hp with rfl | hp
          · exact e2
          · exact h2 p hp
theorem valid_enc (l : List UInt8) (h : (scanL l).2 = none) : l = encL (pts l) ∧ ∀ p ∈ pts l, Scal p := scan_enc l.length l 0 0 (Nat.le_refl _) h
end Go.Proofs.YtmpndnebjahdjaaGreatDoor
/- charset.Encode and ref09.Encode answer alike. -/
namespace Go.Proofs.YtmpndnebjahdjaaGreatDoor
open Go.RowKit
set_option linter.unusedVariables false
set_option linter.unusedSimpArgs false

noncomputable def tokX (c : Int) : Tok := if c ≤ 3 then tokE (lsK (pairsM (setS c))) else if c ≤ 6 then E9 c else tokWE (decide (c = 9))
def encO : List UInt8 × Option Nat → List UInt8 × Int × Int
  | (b, none) => (b, 0, 0)
  | (_, some q) => ([], 6, (q : Nat))
noncomputable def encT (c : Int) (l : List UInt8) : List UInt8 × Int × Int :=
  if ¬ (0 ≤ c ∧ c ≤ 9) then ([], 5, 0) else match (scanL l).2 with
    | some k => ([], 2, (k : Nat))
    | none => if c = 7 then (l, 0, 0) else encO (decT (tokX c) l)
theorem encT_bad (c : Int) (l : List UInt8) (h : 0 ≤ c ∧ c ≤ 9) (k : Nat) (hs : (scanL l).2 = some k) : encT c l = ([], 2, ((k : Nat) : Int)) := by
  unfold encT; rw [if_neg (by simpa using h), hs]
theorem encT_u (l : List UInt8) (hs : (scanL l).2 = none) : encT 7 l = (l, 0, 0) := by
  unfold encT; rw [if_neg (by decide), hs]; simp only; rw [if_pos trivial]
theorem encT_ok (c : Int) (l : List UInt8) (h : 0 ≤ c ∧ c ≤ 9) (h7 : c ≠ 7) (hs : (scanL l).2 = none) : encT c l = encO (decT (tokX c) l) := by
  unfold encT; rw [if_neg (by simpa using h), hs]; simp only; rw [if_neg h7]
theorem encT_none (c : Int) (l : List UInt8) (h : ¬ (0 ≤ c ∧ c ≤ 9)) : encT c l = ([], 5, 0) := by unfold encT; rw [if_pos h]
/-- what a reader's end is, in both forms. -/
theorem enc_form2 {E : Tok} (l : List UInt8) : ((.tuple #[.string ⟨(decT E l).1.toArray⟩, faultE (decT E l).2] : Value) = .tuple #[.string ⟨(encO (decT E l)).1.toArray⟩, .agg #[.int .i64 (encO (decT E l)).2.1, .int .i64 (encO (decT E l)).2.2]]) ∧
    (enc9R (decT E l) = .tuple #[.string ⟨(encO (decT E l)).1.toArray⟩, .int .i64 (encO (decT E l)).2.1, .int .i64 (encO (decT E l)).2.2]) := by
  rcases hd : decT E l with ⟨b, o⟩
  cases o with
  | none => exact ⟨rfl, rfl⟩
  | some q =>
    have : b = [] := runT_bad _ _ _ _ _ _ hd
    subst this
    exact ⟨rfl, rfl⟩
def pV (r : List UInt8 × Int × Int) : Value := .tuple #[.string ⟨r.1.toArray⟩, .agg #[.int .i64 r.2.1, .int .i64 r.2.2]]
def rV (r : List UInt8 × Int × Int) : Value := .tuple #[.string ⟨r.1.toArray⟩, .int .i64 r.2.1, .int .i64 r.2.2]
set_option maxRecDepth 100000 in
set_option maxHeartbeats 4000000 in
theorem cencode_none (c : Int) (b : ByteArray) (w : World) (h : ¬ (0 ≤ c ∧ c ≤ 9)) :
    Calls Tryz.prog 12 #[.int .i64 c, .string b] w (EncPost (pV ([], 5, 0)) w) := by
  have hb0 := bal (Below.refl w.heap.size w) (.cells #[.int .i64 0, .int .i64 0] 25)
  have l0 := Live.fresh w #[.int .i64 0, .int .i64 0] 25 0 _ rfl
  have l1 := Live.fresh w #[.int .i64 0, .int .i64 0] 25 1 _ rfl
  obtain ⟨a1, a2⟩ := l0
  obtain ⟨a3, a4⟩ := l1
  have n0 : (c == 0) = false := by simp; omega
  have n1 : (c == 1) = false := by simp; omega
  have n2 : (c == 2) = false := by simp; omega
  have n3 : (c == 3) = false := by simp; omega
  have n4 : (c == 4) = false := by simp; omega
  have n5 : (c == 5) = false := by simp; omega
  have n6 : (c == 6) = false := by simp; omega
  have n7 : (c == 7) = false := by simp; omega
  have n8 : (c == 8) = false := by simp; omega
  have n9 : (c == 9) = false := by simp; omega
  clear h
  go_enter Tryz.func12, Tryz.ntmps12
  go_wp2
  refine bodyPost_ret (v := .tuple #[.string ⟨#[]⟩, .agg #[.int .i64 5, .int .i64 0]]) (by simp [results, Tryz.results12, go_sem, a1, a2, a3, a4]) rfl ?_
  exact (show EncPost _ _ _ _ from ⟨rfl, by first | exact (hb0.setCell (Nat.le_refl _) _).setCell (Nat.le_refl _) _ | exact bal (Below.refl w.heap.size w) _⟩)
theorem twoB_4 : twoB 4 = wBytesM := by funext p; unfold twoB; rw [if_neg (by decide)]
theorem twoB_5 : twoB 5 = jBytesM := by funext p; unfold twoB; rw [if_pos rfl]
theorem cencode_all (c : Int) (b : ByteArray) (w : World) (hT : TW w) (hb : b.size ≤ 1048576) :
    Calls Tryz.prog 12 #[.int .i64 c, .string b] w (EncPost (pV (encT c (bl b))) w) := by
  by_cases hc : 0 ≤ c ∧ c ≤ 9
  · have hbb : (⟨(bl b).toArray⟩ : ByteArray) = b := mk_list b
    cases hs : (scanL (bl b)).2 with
    | some k =>
      rw [encT_bad c _ hc k hs]
      obtain ⟨h0, h9⟩ := hc
      by_cases h3 : c ≤ 3
      · have h := cencode_lo c b w hT (by omega) h0 h3
        unfold encV at h; rw [hs] at h; exact h
      by_cases h4 : c = 4
      · subst h4
        have h := cencode_two 4 wBytesM wBytesM_len b (tells_w _) w hT (by omega) (by omega) (by omega)
        unfold encB at h; rw [hs] at h; exact h
      by_cases h5 : c = 5
      · subst h5
        have h := cencode_two 5 jBytesM jBytesM_len b (tells_j _) w hT (by omega) (by omega) (by omega)
        unfold encB at h; rw [hs] at h; exact h
      by_cases h6 : c = 6
      · subst h6
        have h := cencode_big b w hT hb
        unfold enc5 at h; rw [hs] at h; exact h
      by_cases h7 : c = 7
      · subst h7
        have h := cencode_u b w hT (by omega)
        unfold encU decU at h; rw [hs] at h; exact h
      · have h := cencode_wide c b w hT (by omega) (by omega) h9
        unfold encW at h; rw [hs] at h; exact h
    | none =>
      by_cases h7 : c = 7
      · subst h7
        rw [encT_u _ hs]
        have h := cencode_u b w hT (by omega)
        unfold encU decU at h; rw [hs] at h; exact h
      rw [encT_ok c _ hc h7 hs]
      obtain ⟨h0, h9⟩ := hc
      unfold pV
      by_cases h3 : c ≤ 3
      · have h := cencode_lo c b w hT (by omega) h0 h3
        unfold encV at h; rw [hs] at h
        simp only at h
        rw [(enc_form2 (bl b)).1] at h
        have e : tokX c = tokE (lsK (pairsM (setS c))) := if_pos h3
        rw [e]; exact h
      by_cases h4 : c = 4
      · subst h4
        have h := cencode_two 4 wBytesM wBytesM_len b (tells_w _) w hT (by omega) (by omega) (by omega)
        unfold encB at h; rw [hs] at h
        simp only at h
        rw [(enc_form2 (bl b)).1] at h
        have e : tokX 4 = tokB wBytesM := by unfold tokX E9; rw [if_neg (by decide), if_pos (by decide), if_neg (by decide), twoB_4]
        rw [e]; exact h
      by_cases h5 : c = 5
      · subst h5
        have h := cencode_two 5 jBytesM jBytesM_len b (tells_j _) w hT (by omega) (by omega) (by omega)
        unfold encB at h; rw [hs] at h
        simp only at h
        rw [(enc_form2 (bl b)).1] at h
        have e : tokX 5 = tokB jBytesM := by unfold tokX E9; rw [if_neg (by decide), if_pos (by decide), if_neg (by decide), twoB_5]
        rw [e]; exact h
      by_cases h6 : c = 6
      · subst h6
        have h := cencode_big b w hT hb
        unfold enc5 at h; rw [hs] at h
        simp only at h
        rw [(enc_form2 (bl b)).1] at h
        have e : tokX 6 = tok5 := by unfold tokX E9; rw [if_neg (by decide), if_pos (by decide), if_pos rfl]
        rw [e]; exact h
      · have h := cencode_wide c b w hT (by omega) (by omega) h9
        unfold encW at h; rw [hs] at h
        simp only at h
        have e : tokX c = tokWE (decide (c = 9)) := by unfold tokX; rw [if_neg (by omega), if_neg (by omega)]
        have hn := runWE_none (decide (c = 9)) (bl b).length (bl b) 0 []
        rcases hd : decT (tokWE (decide (c = 9))) (bl b) with ⟨t, o⟩
        have ho : o = none := by have := hn; unfold decT at hd; rw [hd] at this; exact this
        subst ho
        rw [hd] at h
        rw [e, hd]
        exact h
  · rw [encT_none c _ hc]
    exact cencode_none c b w hc
end Go.Proofs.YtmpndnebjahdjaaGreatDoor
/- ref09.Encode answers encT. -/
namespace Go.Proofs.YtmpndnebjahdjaaGreatDoor
open Go.RowKit
set_option linter.unusedVariables false
set_option linter.unusedSimpArgs false

theorem encG_all (big : Bool) : ∀ (ps : List Int) (a : Nat) (acc : List UInt8), encG (fun p => some (bytesP big p)) ps a acc = (acc ++ ps.flatMap (bytesP big), none) := by
  intro ps
  induction ps with
  | nil => intro a acc; simp [encG]
  | cons p r ih => intro a acc; rw [encG_some (b := bytesP big p) rfl, ih, List.flatMap_cons, List.append_assoc]
theorem enc9_all (c : Int) (t : ByteArray) (w : World) (ht : t.size ≤ 100000) :
    Calls Tryz.prog 13 #[.int .i64 c, .string t] w (En9Post (rV (encT c (bl t))) w) := by
  by_cases hc : 0 ≤ c ∧ c ≤ 9
  · have k1 := fun w => refPoints_any t w (by omega)
    unfold RPts RPtsS at k1
    cases hs : (scanL (bl t)).2 with
    | some k =>
      rw [encT_bad c _ hc k hs]
      rw [hs] at k1
      simp only at k1
      have hk0 : (0 : Int) ≤ (k : Int) := by omega
      obtain ⟨h0, h9⟩ := hc
      have K1 := Lib.hid k1
      clear k1
      clear hs
      go_enter Tryz.func13, Tryz.ntmps13
      go_wp2_with (go_at_call 48; refine (K1.out _).mono ?_; rintro e w1 ⟨rfl, hb1⟩)
      refine bodyPost_ret (v := .tuple #[.string ⟨#[]⟩, .int .i64 2, .int .i64 (k : Int)]) (by simp [results, Tryz.results13, go_sem]) rfl ?_
      exact (show En9Post _ _ _ _ from ⟨rfl, hb1⟩)
    | none =>
      rw [hs] at k1
      simp only at k1
      obtain ⟨v1, v2⟩ := valid_enc (bl t) hs
      by_cases h7 : c = 7
      · subst h7
        rw [encT_u _ hs]
        have hbb : (⟨(bl t).toArray⟩ : ByteArray) = t := mk_list t
        have eV : rV (bl t, 0, 0) = .tuple #[.string t, .int .i64 0, .int .i64 0] := by unfold rV; rw [hbb]
        rw [eV]
        have K1 := Lib.hid k1
        clear k1
        clear hs v1 v2 eV hbb hc
        go_enter Tryz.func13, Tryz.ntmps13
        go_wp2_with (go_at_call 48; refine (K1.out _).mono ?_; rintro e w1 ⟨⟨v, rfl, hown⟩, hb1⟩)
        refine bodyPost_ret (v := .tuple #[.string t, .int .i64 0, .int .i64 0]) (by simp [results, Tryz.results13, go_sem]) rfl ?_
        exact (show En9Post _ _ _ _ from ⟨rfl, hb1⟩)
      rw [encT_ok c _ hc h7 hs]
      obtain ⟨h0, h9⟩ := hc
      have hpl : (pts (bl t)).length ≤ 100000 := by have := pts_len (bl t); rw [bl_length] at this; omega
      by_cases h3 : c ≤ 3
      · have e : tokX c = tokE (lsK (pairsM (setS c))) := if_pos h3
        have hd : decT (tokE (lsK (pairsM (setS c)))) (bl t) = encG (gLo (lsK (pairsM (setS c)))) (pts (bl t)) 0 [] := by
          conv => lhs; rw [v1]
          refine dec_encG (fun p r hp => ?_) _ v2
          unfold tokE gLo
          rw [dec_encR p hp r, show ((p.toNat : Nat) : Int) = p from by have := hp.1; omega]
          cases lsK (pairsM (setS c)) p <;> rfl
        rw [e, hd]
        have hgb := fun u q => encG_bad (g := gLo (lsK (pairsM (setS c)))) (pts (bl t)) 0 [] u q
        have k2 := fun v w hr => encode5r_any c v (pts (bl t)) w h0 h3 hr v2 (by omega)
        rcases hr : encG (gLo (lsK (pairsM (setS c)))) (pts (bl t)) 0 [] with ⟨u, o⟩
        rw [hr] at k2
        simp only at k2
        obtain ⟨U, hU⟩ : ∃ U : ByteArray, U = ⟨u.toArray⟩ := ⟨_, rfl⟩
        rw [← hU] at k2
        cases o with
        | none =>
          have k2 : ∀ v w, Row w v (pts (bl t)).length (icells (pts (bl t))) → Calls Tryz.prog 49 #[.int .i64 c, v] w fun e w' => e = .returned (.tuple #[.string U, .int .i64 (-1)]) ∧ Below w.heap.size w w' := k2
          have eV : rV (encO (u, none)) = .tuple #[.string U, .int .i64 0, .int .i64 0] := by rw [hU]; rfl
          rw [eV]
          have K1 := Lib.hid k1
          have K2 := Lib.hid k2
          have HGB := Lib.hid hgb
          have HU := Lib.hid hU
          have V1 := Lib.hid v1
          have V2 := Lib.hid v2
          clear k1 k2 hgb hU v1 v2
          clear hs hr hd e eV
          go_enter Tryz.func13, Tryz.ntmps13
          go_wp2_with (first
            | (go_at_call 48; refine (K1.out _).mono ?_; rintro e w1 ⟨⟨v, rfl, hown⟩, hb1⟩)
            | (go_at_call 49; refine (K2.out _ _ hown.row).mono ?_; rintro e w2 ⟨rfl, hb2⟩))
          refine bodyPost_ret (v := .tuple #[.string U, .int .i64 0, .int .i64 0]) (by simp [results, Tryz.results13, go_sem]) rfl ?_
          exact (show En9Post _ _ _ _ from ⟨rfl, bt hb1 hb2⟩)
        | some q =>
          have k2 : ∀ v w, Row w v (pts (bl t)).length (icells (pts (bl t))) → Calls Tryz.prog 49 #[.int .i64 c, v] w fun e w' => e = .returned (.tuple #[.string U, .int .i64 (q : Nat)]) ∧ Below w.heap.size w w' := k2
          have eV : rV (encO (u, some q)) = .tuple #[.string ⟨#[]⟩, .int .i64 6, .int .i64 (q : Nat)] := rfl
          rw [eV]
          have hq0 : (0 : Int) ≤ (q : Int) := by omega
          have K1 := Lib.hid k1
          have K2 := Lib.hid k2
          have HGB := Lib.hid hgb
          have HU := Lib.hid hU
          have V1 := Lib.hid v1
          have V2 := Lib.hid v2
          clear k1 k2 hgb hU v1 v2
          clear hs hr hd e eV
          go_enter Tryz.func13, Tryz.ntmps13
          go_wp2_with (first
            | (go_at_call 48; refine (K1.out _).mono ?_; rintro e w1 ⟨⟨v, rfl, hown⟩, hb1⟩)
            | (go_at_call 49; refine (K2.out _ _ hown.row).mono ?_; rintro e w2 ⟨rfl, hb2⟩))
          refine bodyPost_ret (v := .tuple #[.string ⟨#[]⟩, .int .i64 6, .int .i64 (q : Int)]) (by simp [results, Tryz.results13, go_sem]) rfl ?_
          exact (show En9Post _ _ _ _ from ⟨rfl, bt hb1 hb2⟩)
      by_cases h6 : c ≤ 6
      · have e : tokX c = E9 c := by unfold tokX; rw [if_neg h3, if_pos h6]
        rw [e]
        have h := enc9_two c t (pts (bl t)) w (by omega) ht v1 v2
        rw [(enc_form2 (E := E9 c) (bl t)).2] at h
        exact h
      · have e : tokX c = tokWE (decide (c = 9)) := by unfold tokX; rw [if_neg h3, if_neg h6]
        have hd : decT (tokWE (decide (c = 9))) (bl t) = ((pts (bl t)).flatMap (bytesP (decide (c = 9))), none) := by
          conv => lhs; rw [v1]
          rw [dec_encG (g := fun p => some (bytesP (decide (c = 9)) p)) (fun p r hp => ?_) _ v2, encG_all]
          · rfl
          · unfold tokWE
            rw [dec_encR p hp r, show ((p.toNat : Nat) : Int) = p from by have := hp.1; omega]
            rfl
        rw [e, hd]
        have k2 := fun v w hr => encode3r_any (decide (c = 9)) v (pts (bl t)) w hr v2 (by omega)
        obtain ⟨U, hU⟩ : ∃ U : ByteArray, U = ⟨((pts (bl t)).flatMap (bytesP (decide (c = 9)))).toArray⟩ := ⟨_, rfl⟩
        rw [← hU] at k2
        have eV : rV (encO ((pts (bl t)).flatMap (bytesP (decide (c = 9))), none)) = .tuple #[.string U, .int .i64 0, .int .i64 0] := by rw [hU]; rfl
        rw [eV]
        have hB : (c == 9) = decide (c = 9) := by by_cases h : c = 9 <;> simp [h]
        have h8 : 8 ≤ c := by omega
        obtain ⟨b, hb⟩ : ∃ b, b = decide (c = 9) := ⟨_, rfl⟩
        rw [← hb] at hB k2
        have K1 := Lib.hid k1
        have K2 := Lib.hid k2
        have HU := Lib.hid hU
        have V1 := Lib.hid v1
        have V2 := Lib.hid v2
        have HBB := Lib.hid hb
        clear k1 k2 hU v1 v2 hb
        clear hs hd e eV
        go_enter Tryz.func13, Tryz.ntmps13
        go_wp2_with (first
          | (go_at_call 48; refine (K1.out _).mono ?_; rintro e w1 ⟨⟨v, rfl, hown⟩, hb1⟩)
          | (go_at_call 50; refine (K2.out _ _ hown.row).mono ?_; rintro e w2 ⟨rfl, hb2⟩))
        refine bodyPost_ret (v := .tuple #[.string U, .int .i64 0, .int .i64 0]) (by simp [results, Tryz.results13, go_sem]) rfl ?_
        exact (show En9Post _ _ _ _ from ⟨rfl, bt hb1 hb2⟩)
  · rw [encT_none c _ hc]
    by_cases h0 : c < 0
    · clear hc
      go_enter Tryz.func13, Tryz.ntmps13
      go_wp2
      refine bodyPost_ret (v := .tuple #[.string ⟨#[]⟩, .int .i64 5, .int .i64 0]) (by simp [results, Tryz.results13, go_sem]) rfl ?_
      exact (show En9Post _ _ _ _ from ⟨rfl, Below.refl _ _⟩)
    · have h9 : 9 < c := by omega
      clear hc
      go_enter Tryz.func13, Tryz.ntmps13
      go_wp2
      refine bodyPost_ret (v := .tuple #[.string ⟨#[]⟩, .int .i64 5, .int .i64 0]) (by simp [results, Tryz.results13, go_sem]) rfl ?_
      exact (show En9Post _ _ _ _ from ⟨rfl, Below.refl _ _⟩)
end Go.Proofs.YtmpndnebjahdjaaGreatDoor
