/- Plain: what is encoded is decoded as it was: the road, and the charsets of one byte, of units, of signs. -/
import Derived.Test.YtmpndnebjahdjaaGreatDoorUz
namespace Go.Proofs.YtmpndnebjahdjaaGreatDoor
open Go.RowKit
set_option linter.unusedVariables false
set_option linter.unusedSimpArgs false

/-- what comes of signs by one reader, another reads as just these. -/
theorem forth_reads {E D : Tok} (H : ∀ ps b k, ps ≠ [] → (∀ p ∈ ps, Scal p) → E (encL ps) = some (b, k) → ∃ j, k = (encL (ps.take j)).length ∧ b ≠ [] ∧ ∀ r, D (b ++ r) = some (encL (ps.take j), b.length)) (l t : List UInt8) (h : Reads E l t) : ∀ ps, l = encL ps → (∀ p ∈ ps, Scal p) → Reads D t l := by
  induction h with
  | nil => intro ps _ _; exact .nil
  | cons l t k r hl hd hr ih =>
    intro ps hps hsc
    subst hps
    obtain ⟨j, hk, hb, hD⟩ := H ps t k (by rintro rfl; exact hl rfl) hsc hd
    have e : encL ps = encL (ps.take j) ++ encL (ps.drop j) := by rw [← encL_append, List.take_append_drop]
    have hdrop : (encL ps).drop k = encL (ps.drop j) := by rw [e, hk, List.drop_left]
    have hr' := ih (ps.drop j) hdrop (fun p hp => hsc p (List.mem_of_mem_drop hp))
    rw [hdrop] at hr'
    rw [e]
    refine .cons (t ++ r) (encL (ps.take j)) t.length (encL (ps.drop j)) (by intro h; exact hb (List.append_eq_nil_iff.1 h).1) (hD r) ?_
    rw [List.drop_left]; exact hr'
theorem forth_of {E D : Tok} (NE : ∀ l t k, E l = some (t, k) → 1 ≤ k) (ND : ∀ l t k, D l = some (t, k) → 1 ≤ k) (H : ∀ ps b k, ps ≠ [] → (∀ p ∈ ps, Scal p) → E (encL ps) = some (b, k) → ∃ j, k = (encL (ps.take j)).length ∧ b ≠ [] ∧ ∀ r, D (b ++ r) = some (encL (ps.take j), b.length))
    (l t : List UInt8) (hv : (scanL l).2 = none) (h : decT E l = (t, none)) : decT D t = (l, none) := by
  obtain ⟨v1, v2⟩ := valid_enc l hv
  exact dec_reads ND t l (forth_reads H l t (reads_dec NE l t h) (pts l) v1 v2)
theorem pos_C (c : Int) (h : c ≤ 7) (l t : List UInt8) (k : Nat) (hd : tokC c l = some (t, k)) : 1 ≤ k := (near_C c h).pos l t k hd |>.1
theorem forth_lo (c : Int) (h0 : 0 ≤ c) (h3 : c ≤ 3) (l t : List UInt8) (hv : (scanL l).2 = none) (h : decT (tokE (lsK (pairsM (setS c)))) l = (t, none)) : decT (tokC c) t = (l, none) := by
  refine forth_of (pos_E _) (pos_C c (by omega)) (fun ps b k hne hsc hd => ?_) l t hv h
  cases ps with
  | nil => exact absurd rfl hne
  | cons p q =>
    have hp := hsc p (by simp)
    rw [encL_cons] at hd
    obtain ⟨d1, d2, d3⟩ := dec_head p hp (encL q)
    unfold tokE at hd
    rw [d3, d2, Option.map_eq_some_iff] at hd
    obtain ⟨n, hn, he⟩ := hd
    obtain ⟨x, rfl, hx⟩ := ls_sign c h0 h3 p n hn
    obtain ⟨rfl, rfl⟩ := Prod.mk.inj he
    have ex : UInt8.ofNat ((x.toNat : Int)).toNat = x := by simp
    refine ⟨1, ?_, by simp, fun r => ?_⟩
    · show _ = (encL [p]).length; rw [encL_one]
    · have hg := (tok_good _ (good_at c h0 h3) x r).1
      rw [hx] at hg
      rw [tokC_lo c h3, ex]
      show tokS _ (x :: r) = some (encL [p], 1)
      rw [hg, encL_one]
theorem unitB_of (big : Bool) (u : Int) (h0 : 0 ≤ u) (h1 : u < 65536) : ∃ x y, unitB big u = [x, y] ∧ unitI x y big = u := by
  have e1 : (UInt8.ofNat (u.toNat / 256)).toNat = u.toNat / 256 := by rw [UInt8.toNat_ofNat']; omega
  have e2 : (UInt8.ofNat (u.toNat % 256)).toNat = u.toNat % 256 := by rw [UInt8.toNat_ofNat']; omega
  cases big with
  | true => exact ⟨_, _, rfl, by unfold unitI; rw [if_pos rfl, e1, e2]; omega⟩
  | false => exact ⟨_, _, rfl, by unfold unitI; rw [if_neg (by decide), e1, e2]; omega⟩
theorem wsign_bytes (big : Bool) (p : Int) (hp : Scal p) (r : List UInt8) : wsign big (bytesP big p ++ r) = (p, (bytesP big p).length) ∧ bytesP big p ≠ [] := by
  obtain ⟨p0, p1, p2⟩ := hp
  by_cases h : p < 65536
  · have e : bytesP big p = unitB big p := by unfold bytesP unitsP; rw [if_pos h]; simp
    obtain ⟨x, y, hb, hu⟩ := unitB_of big p p0 h
    rw [e, hb]
    refine ⟨?_, by simp⟩
    show wsign big (x :: y :: r) = (p, 2)
    rw [wsign.eq_def]
    simp only
    rw [hu, if_pos (by omega)]
  · have e : bytesP big p = unitB big (55296 + (p - 65536) / 1024) ++ unitB big (56320 + (p - 65536) % 1024) := by unfold bytesP unitsP; rw [if_neg h]; simp
    obtain ⟨x, y, hb, hu⟩ := unitB_of big (55296 + (p - 65536) / 1024) (by omega) (by omega)
    obtain ⟨z, v, hb2, hu2⟩ := unitB_of big (56320 + (p - 65536) % 1024) (by omega) (by omega)
    rw [e, hb, hb2]
    refine ⟨?_, by simp⟩
    show wsign big (x :: y :: z :: v :: r) = (p, 4)
    rw [wsign.eq_def]
    simp only
    rw [hu, hu2, if_neg (by omega), if_neg (by omega), if_neg (by omega)]
    congr 1
    omega
theorem forth_wide (big : Bool) (l t : List UInt8) (hv : (scanL l).2 = none) (h : decT (tokWE big) l = (t, none)) : decT (tokW big) t = (l, none) := by
  refine forth_of (pos_WE big) (pos_W big) (fun ps b k hne hsc hd => ?_) l t hv h
  cases ps with
  | nil => exact absurd rfl hne
  | cons p q =>
    have hp := hsc p (by simp)
    rw [encL_cons] at hd
    obtain ⟨d1, d2, d3⟩ := dec_head p hp (encL q)
    unfold tokWE at hd
    rw [d3, d2] at hd
    obtain ⟨rfl, rfl⟩ := Prod.mk.inj (Option.some.inj hd)
    refine ⟨1, ?_, (wsign_bytes big p hp []).2, fun r => ?_⟩
    · show _ = (encL [p]).length; rw [encL_one]
    · obtain ⟨w1, w2⟩ := wsign_bytes big p hp r
      unfold tokW
      rw [w1, if_neg (by intro h; exact w2 (List.eq_nil_of_length_eq_zero h))]
      show _ = some (encL [p], _)
      rw [encL_one]
theorem forth_u (l : List UInt8) (hv : (scanL l).2 = none) : decT (tokC 7) l = (l, none) := by
  rw [tokC_u, decT_U]
  unfold decU
  rw [hv]
end Go.Proofs.YtmpndnebjahdjaaGreatDoor
/- Plain: what is encoded is decoded as it was: the charsets of two bytes; all. -/
namespace Go.Proofs.YtmpndnebjahdjaaGreatDoor
open Go.RowKit
set_option linter.unusedVariables false
set_option linter.unusedSimpArgs false

theorem kthF_of (within : Bool) : ∀ (f n m k : Nat), n ≤ m → m < n + f → inN m = within → cntB (fun i => inN (n + i) == within) (m - n) = k → kthF within f n k = 44032 + (m : Int) := by
  intro f
  induction f with
  | zero => intro n m k h0 h1; omega
  | succ f ih =>
    intro n m k h0 h1 hm hk
    rw [kthF]
    by_cases he : m = n
    · subst he
      rw [Nat.sub_self] at hk
      have hk0 : k = 0 := hk.symm
      rw [if_pos hm, if_pos hk0]
    · rw [show m - n = 1 + (m - (n + 1)) from by omega, cntB_add, cntB_congr (fun i => (inN (n + (1 + i)) == within)) (fun i => inN (n + 1 + i) == within) _ (fun i _ => by rw [Nat.add_assoc])] at hk
      simp only [cntB, Nat.add_zero] at hk
      by_cases hw : inN n = within
      · rw [if_pos (by simpa using hw)] at hk
        rw [if_pos hw, if_neg (by omega)]
        exact ih (n + 1) m (k - 1) (by omega) (by omega) hm (by omega)
      · rw [if_neg (by simpa using hw)] at hk
        rw [if_neg hw]
        exact ih (n + 1) m k (by omega) (by omega) hm (by omega)
/-- a syllable is the one of its number. -/
theorem kth_rank (p : Int) (h0 : 44032 ≤ p) (h1 : p ≤ 55203) : kthM (rankM p) (rankIn p) = p := by
  obtain ⟨n, rfl⟩ : ∃ n : Nat, p = 44032 + (n : Int) := ⟨(p - 44032).toNat, by omega⟩
  have hn : n < 11172 := by omega
  rw [rankIn_inN n hn, rankM_cnt n hn _ rfl]
  unfold kthM
  rw [if_neg (by omega)]
  refine kthF_of _ 11172 0 n _ (by omega) (by omega) rfl ?_
  rw [Nat.sub_zero, cntB_congr (fun i => inN (0 + i) == inN n) (fun i => inN i == inN n) n (fun i _ => by rw [Nat.zero_add])]
  omega
theorem number_second (n : Int) (h0 : 0 ≤ n) (h1 : n ≤ 177) : numberM (secondM n) = n := by
  unfold numberM secondM
  repeat' split
  all_goals omega
theorem signW_code (p : Int) (h0 : 44032 ≤ p) (h1 : p ≤ 55203) : ∃ lead b, wCode p = lead * 256 + b ∧ 129 ≤ lead ∧ lead ≤ 254 ∧ 0 ≤ b ∧ b ≤ 255 ∧ signW lead b = p := by
  have hk := kth_rank p h0 h1
  obtain ⟨r0, r1⟩ := rankM_bd p h0 h1
  unfold wCode
  cases hi : rankIn p with
  | true =>
    rw [hi] at hk
    have h2350 : rankM p < 2350 := by
      by_cases h : rankM p < 2350
      · exact h
      · have := choose_out (rankM p) (by omega)
        rw [kthM_eq, hk, optZ_some p (by omega)] at this
        cases this
    rw [if_pos rfl]
    refine ⟨_, _, rfl, by omega, by omega, by omega, by omega, ?_⟩
    unfold signW
    rw [if_neg (by unfold numberM; omega), if_neg (by omega), if_neg (by omega), if_pos (by omega), show (161 + (rankM p + 1410) / 94 - 176) * 94 + (161 + (rankM p + 1410) % 94) - 161 = rankM p from by omega, hk]
  | false =>
    rw [hi] at hk
    rw [if_neg (by decide)]
    by_cases h5 : rankM p < 5696
    · rw [if_pos h5]
      have hs := number_second (rankM p % 178) (by omega) (by omega)
      obtain ⟨s0, s1⟩ := secondM_bd (rankM p % 178) (by omega) (by omega)
      refine ⟨_, _, rfl, by omega, by omega, by omega, by omega, ?_⟩
      unfold signW
      rw [hs, if_neg (by omega), if_pos (by omega), show (129 + rankM p / 178 - 129) * 178 + rankM p % 178 = rankM p from by omega, hk]
    · rw [if_neg h5]
      have hs := number_second ((rankM p - 5696) % 84) (by omega) (by omega)
      obtain ⟨s0, s1⟩ := secondM_bd ((rankM p - 5696) % 84) (by omega) (by omega)
      have s2 : secondM ((rankM p - 5696) % 84) < 161 := by unfold secondM; omega
      refine ⟨_, _, rfl, by omega, by omega, by omega, by omega, ?_⟩
      unfold signW
      rw [hs, if_neg (by omega), if_neg (by omega), if_pos s2, show 5696 + (161 + (rankM p - 5696) / 84 - 161) * 84 + (rankM p - 5696) % 84 = rankM p from by omega, hk]
/-- a code, in bytes. -/
theorem big_two (lead b : Int) (h0 : 128 ≤ lead) (h1 : lead ≤ 255) (h2 : 0 ≤ b) (h3 : b ≤ 255) : ∃ x y : UInt8, lead = (x.toNat : Int) ∧ b = (y.toNat : Int) ∧ bigL (lead * 256 + b) 2 = [x, y] ∧ ¬ x < 128 := by
  obtain ⟨x, hx⟩ := u8_of lead (by omega) (by omega)
  obtain ⟨y, hy⟩ := u8_of b (by omega) (by omega)
  refine ⟨x, y, hx, hy, by rw [hx, hy, bigL2], fun h => ?_⟩
  have h' : x.toNat < 128 := h
  omega
theorem wsigns_of (p lead b : Int) (hp : Scal p) (hz : p ≠ 0) (h0 : 0 ≤ lead) (h1 : lead ≤ 255) (h2 : 0 ≤ b) (h3 : b ≤ 255) (h : signW lead b = p) : signsM 4 lead b = encR p := by
  rw [wansung_signs, (signW_eq lead b h0 h1 h2 h3).1, h, optZ_some p hz, if_pos rfl, textM_one p hp]
theorem two_back (c p : Int) (hc : c = 4 ∨ c = 5) (hp : Scal p) (h128 : 128 ≤ p) (hne : twoB c p ≠ []) : ∃ x y : UInt8, twoB c p = [x, y] ∧ ¬ x < 128 ∧ signsM c x.toNat y.toNat = encR p := by
  rcases hc with rfl | rfl
  · rw [twoB_4] at hne ⊢
    by_cases hs : 44032 ≤ p ∧ p ≤ 55203
    · obtain ⟨lead, b, e, l0, l1, b0, b1, hsg⟩ := signW_code p hs.1 hs.2
      obtain ⟨x, y, hx, hy, hb, hx1⟩ := big_two lead b (by omega) (by omega) b0 b1
      refine ⟨x, y, ?_, hx1, ?_⟩
      · unfold wBytesM; rw [if_pos hs, e, hb]
      · rw [← hx, ← hy]
        exact wsigns_of p lead b hp (by omega) (by omega) (by omega) b0 b1 hsg
    · unfold wBytesM at hne ⊢
      rw [if_neg hs] at hne ⊢
      cases ho : otherCodeM p with
      | none => rw [ho] at hne; exact absurd rfl hne
      | some n =>
        obtain ⟨l0, l1, b0, b1, hr⟩ := otherCode_row p n ho
        obtain ⟨lead, hlead⟩ : ∃ z, z = n / 256 := ⟨_, rfl⟩
        obtain ⟨b, hb'⟩ : ∃ z, z = n % 256 := ⟨_, rfl⟩
        have en : n = lead * 256 + b := by omega
        rw [← hlead, ← hb'] at hr
        rw [← hlead] at l0 l1
        rw [← hb'] at b0 b1
        obtain ⟨x, y, hx, hy, hb, hx1⟩ := big_two lead b (by omega) (by omega) (by omega) (by omega)
        have hsg : signW lead b = p := by
          unfold signW
          rw [if_neg (by unfold numberM; omega), if_neg (by omega), if_neg (by omega), if_neg (by omega), hr]
        refine ⟨x, y, ?_, hx1, ?_⟩
        · show bigL n 2 = _; rw [en, hb]
        · rw [← hx, ← hy]
          exact wsigns_of p lead b hp (by omega) (by omega) (by omega) (by omega) (by omega) hsg
  · rw [twoB_5] at hne ⊢
    unfold jBytesM at hne ⊢
    by_cases hj : (12593 ≤ p ∧ p < 12644) ∨ (44032 ≤ p ∧ p < 55204)
    · rw [if_pos hj] at hne ⊢
      obtain ⟨c0, c1⟩ := codeJ_range p hj
      obtain ⟨x, y, hx, hy, hb, hx1⟩ := big_two (codeJ p / 256) (codeJ p % 256) (by omega) (by omega) (by omega) (by omega)
      rw [show codeJ p / 256 * 256 + codeJ p % 256 = codeJ p from by omega] at hb
      refine ⟨x, y, hb, hx1, ?_⟩
      rw [johab_signs, ← hx, ← hy, show codeJ p / 256 * 256 + codeJ p % 256 = codeJ p from by omega]
      unfold signJB
      rw [sign_code p hj, decide_eq_false (show ¬ p = 0 from by omega), Bool.not_false, if_pos rfl, textM_one p hp]
    · rw [if_neg hj] at hne; exact absurd rfl hne
theorem second_cell (j : Nat) (h : j < 157) : b5cell (bsecond (j : Int)) = (j : Int) ∧ 64 ≤ bsecond (j : Int) ∧ bsecond (j : Int) ≤ 254 := by
  unfold b5cell bsecond
  refine ⟨?_, ?_, ?_⟩ <;> (repeat' split) <;> omega
theorem bQ_back (p n : Int) (hp : Scal p) (h128 : 128 ≤ p) (h : bQ p = some n) : ∃ lead b, n = lead * 256 + b ∧ 128 ≤ lead ∧ lead ≤ 255 ∧ 0 ≤ b ∧ b ≤ 255 ∧ signs8R lead b = encR p := by
  obtain ⟨lead, hl, j, hj⟩ := bQ_in p n h
  obtain ⟨j1, hn⟩ := row_bQ p h128 lead hl j hj
  rw [h] at hn
  have hn := Option.some.inj hn
  obtain ⟨s0, s1, s2⟩ := second_cell j j1
  have hlb : 128 ≤ lead ∧ lead ≤ 255 := by
    simp [leadsL] at hl
    omega
  refine ⟨lead, bsecond (j : Int), hn, hlb.1, hlb.2, by omega, by omega, ?_⟩
  have ho : oneR lead (bsecond (j : Int)) = p := by
    unfold oneR
    rw [s0, if_neg (by omega), show ((j : Int)).toNat = j from by omega, List.getD_eq_getElem?_getD, hj]
    show q63 p = p
    unfold q63
    rw [if_neg (by omega)]
  have ht : ¬ (twoR lead (bsecond (j : Int))).1 ≠ 0 := by
    intro ht
    obtain ⟨c, p', q', _, _, _, _, _, _, hb, hc⟩ := twoR_cases lead (bsecond (j : Int)) (by omega) (by omega) (by omega) (by omega) ht
    obtain ⟨z0, z1, hz⟩ := two_of p' q' c hb
    have hl6 : lead = 136 := by omega
    have hcb : c = bsecond (j : Int) := by omega
    rw [← hcb, hl6] at ho
    have hc4 : c = 98 ∨ c = 100 ∨ c = 163 ∨ c = 165 := by
      have hne : (twoR 136 c).1 ≠ 0 := by rw [hl6, ← hcb] at ht; exact ht
      unfold twoR at hne
      by_cases c1 : (136 : Int) * 256 + c = 34914
      · omega
      by_cases c2 : (136 : Int) * 256 + c = 34916
      · omega
      by_cases c3 : (136 : Int) * 256 + c = 34979
      · omega
      by_cases c4 : (136 : Int) * 256 + c = 34981
      · omega
      · rw [if_neg c1, if_neg c2, if_neg c3, if_neg c4] at hne; exact absurd rfl hne
    have hone : oneM 136 c = (0, false) := by
      obtain ⟨o1, o2, o3, o4⟩ := one_sp
      rcases hc4 with rfl | rfl | rfl | rfl
      · exact o1
      · exact o2
      · exact o3
      · exact o4
    rw [(oneM_eq 136 c).1, ho, optZ_some p (by omega)] at hone
    cases hone
  unfold signs8R
  rw [if_neg ht, ho, if_pos (by omega)]
theorem tok2_low (c : Int) (x : UInt8) (r : List UInt8) (h : x < 128) : tok2 c ([x] ++ r) = some ([x], 1) := by
  unfold tok2
  cases r with
  | nil => simp only [List.append_nil, tokD]; rw [if_pos h]
  | cons y r => show tokD _ (x :: y :: r) = _; simp only [tokD]; rw [if_pos h]
theorem tok2_two (c : Int) (x y : UInt8) (r : List UInt8) (h : ¬ x < 128) (hs : signsM c x.toNat y.toNat ≠ []) : tok2 c ([x, y] ++ r) = some (signsM c x.toNat y.toNat, 2) := by
  unfold tok2
  show tokD _ (x :: y :: r) = _
  simp only [tokD]
  rw [if_neg h, if_neg hs]
theorem encR_lowI (p : Int) (hp : Scal p) (h : p < 128) : encR p = [UInt8.ofNat p.toNat] ∧ UInt8.ofNat p.toNat < 128 := by
  have hp0 := hp.1
  obtain ⟨x, rfl⟩ := u8_of p hp0 (by omega)
  have ex : UInt8.ofNat ((x.toNat : Int)).toNat = x := by simp
  rw [ex]
  have hx : x.toNat < 128 := by omega
  exact ⟨encR_of _ [(x.toNat : Int)] [x] (Lib.encodeRuneZ_one (by omega) (by omega)) rfl, hx⟩
theorem first_back (c p : Int) (q : List Int) (hc : c = 4 ∨ c = 5 ∨ c = 6) (hp : Scal p) (hq : ∀ x ∈ q, Scal x) (h : (first9 c p q.head?).2 ≠ 0) :
    (first9 c p q.head?).1 ≠ [] ∧ ∀ r, tok2 c ((first9 c p q.head?).1 ++ r) = some (encL ((p :: q).take (first9 c p q.head?).2.toNat), (first9 c p q.head?).1.length) := by
  have hp0 := hp.1
  by_cases hlow : p < 128
  · have e : first9 c p q.head? = ([UInt8.ofNat p.toNat], 1) := by unfold first9; rw [if_pos hlow]
    obtain ⟨e1, e2⟩ := encR_lowI p hp hlow
    rw [e]
    refine ⟨by simp, fun r => ?_⟩
    show tok2 c ([UInt8.ofNat p.toNat] ++ r) = some (encL [p], 1)
    rw [tok2_low c _ r e2, encL_one, e1]
  by_cases h6 : c = 6
  · subst h6
    have e : first9 6 p q.head? = (codeB (codeQ p q.head?).1, (codeQ p q.head?).2) := by unfold first9; rw [if_neg hlow, if_pos rfl]
    rw [e] at h ⊢
    unfold codeQ at h ⊢
    cases hb : btwoL bTwos p q.head? with
    | some n =>
      cases q with
      | nil => rw [show ([] : List Int).head? = none from rfl, btwo_none p none ⟨by simp, by simp⟩] at hb; cases hb
      | cons s q =>
        rw [show (s :: q).head? = some s from rfl] at hb
        obtain ⟨z0, z1, hz⟩ := two_of p s n hb
        obtain ⟨x, y, hx, hy, hxy, hx1⟩ := big_two 136 n (by omega) (by omega) (by omega) (by omega)
        have ec : codeB (34816 + n) = [x, y] := by
          unfold codeB
          rw [if_neg (by omega), show (34816 : Int) + n = 136 * 256 + n from by omega, hxy]
        have es : signsM 6 x.toNat y.toNat = encR p ++ encR s := by
          rw [big_signs, ← hx, ← hy]
          unfold signs8R
          rw [hz, if_pos (show p ≠ 0 from by omega)]
        have hne : signsM 6 x.toNat y.toNat ≠ [] := by rw [es]; intro h; exact encR_nn p (List.append_eq_nil_iff.1 h).1
        simp only
        rw [ec]
        refine ⟨by simp, fun r => ?_⟩
        rw [tok2_two 6 x y r hx1 hne, es]
        show some (encR p ++ encR s, 2) = some (encL [p, s], 2)
        rw [encL_cons, encL_one]
    | none =>
      cases hq : bQ p with
      | none => rw [hb, hq] at h; exact absurd rfl h
      | some n =>
        obtain ⟨lead, b, en, l0, l1, b0, b1, hsg⟩ := bQ_back p n hp (by omega) hq
        obtain ⟨x, y, hx, hy, hxy, hx1⟩ := big_two lead b (by omega) (by omega) (by omega) (by omega)
        have ec : codeB n = [x, y] := by
          unfold codeB
          rw [if_neg (by omega), en, hxy]
        have es : signsM 6 x.toNat y.toNat = encR p := by rw [big_signs, ← hx, ← hy, hsg]
        have hne : signsM 6 x.toNat y.toNat ≠ [] := by rw [es]; exact encR_nn p
        simp only
        rw [ec]
        refine ⟨by simp, fun r => ?_⟩
        rw [tok2_two 6 x y r hx1 hne, es]
        show some (encR p, 2) = some (encL [p], 2)
        rw [encL_one]
  · have e : first9 c p q.head? = (twoB c p, if twoB c p = [] then 0 else 1) := by unfold first9; rw [if_neg hlow, if_neg h6]
    rw [e] at h ⊢
    by_cases hne : twoB c p = []
    · rw [hne] at h; exact absurd rfl h
    · obtain ⟨x, y, hxy, hx1, es⟩ := two_back c p (by omega) hp (by omega) hne
      have hs : signsM c x.toNat y.toNat ≠ [] := by rw [es]; exact encR_nn p
      simp only
      rw [if_neg hne]
      refine ⟨hne, fun r => ?_⟩
      rw [hxy, tok2_two c x y r hx1 hs, es]
      show some (encR p, 2) = some (encL [p], 2)
      rw [encL_one]
theorem pos_E9 (c : Int) (l t : List UInt8) (k : Nat) (h : E9 c l = some (t, k)) : 1 ≤ k := by
  unfold E9 at h
  split at h
  · exact pos_5 l t k h
  · exact pos_B _ l t k h
theorem forth_two (c : Int) (hc : c = 4 ∨ c = 5 ∨ c = 6) (l t : List UInt8) (hv : (scanL l).2 = none) (h : decT (E9 c) l = (t, none)) : decT (tokC c) t = (l, none) := by
  rw [tokC_two c (by omega) (by omega)]
  refine forth_of (pos_E9 c) (fun l t k h => (near_D _).pos l t k h |>.1) (fun ps b k hne hsc hd => ?_) l t hv h
  cases ps with
  | nil => exact absurd rfl hne
  | cons p q =>
    have hp := hsc p (by simp)
    have hq : ∀ x ∈ q, Scal x := fun x hx => hsc x (by simp [hx])
    rw [first_tok c p q hp hq] at hd
    by_cases hz : (first9 c p q.head?).2 = 0
    · rw [if_pos hz] at hd; cases hd
    · rw [if_neg hz] at hd
      obtain ⟨rfl, rfl⟩ := Prod.mk.inj (Option.some.inj hd)
      obtain ⟨f1, f2⟩ := first_back c p q hc hp hq hz
      exact ⟨_, rfl, f1, f2⟩
/-- what is encoded is decoded as it was. -/
theorem forth_any (c : Int) (l b : List UInt8) (a : Int) (h : encT c l = (b, 0, a)) : 0 ≤ c ∧ c ≤ 9 ∧ decT (tokC c) b = (l, none) := by
  by_cases hc : 0 ≤ c ∧ c ≤ 9
  · refine ⟨hc.1, hc.2, ?_⟩
    cases hs : (scanL l).2 with
    | some k => rw [encT_bad c l hc k hs] at h; have := (Prod.mk.inj (Prod.mk.inj h).2).1; omega
    | none =>
      by_cases h7 : c = 7
      · subst h7
        rw [encT_u l hs] at h
        have := (Prod.mk.inj h).1
        subst this
        exact forth_u l hs
      rw [encT_ok c l hc h7 hs] at h
      rcases hd : decT (tokX c) l with ⟨t, o⟩
      rw [hd] at h
      cases o with
      | some q => have := (Prod.mk.inj (Prod.mk.inj h).2).1; omega
      | none =>
        have := (Prod.mk.inj h).1
        subst this
        obtain ⟨h0, h9⟩ := hc
        by_cases h3 : c ≤ 3
        · have e : tokX c = tokE (lsK (pairsM (setS c))) := if_pos h3
          rw [e] at hd
          exact forth_lo c h0 h3 l _ hs hd
        by_cases h6 : c ≤ 6
        · have e : tokX c = E9 c := by unfold tokX; rw [if_neg h3, if_pos h6]
          rw [e] at hd
          exact forth_two c (by omega) l _ hs hd
        · have e : tokX c = tokWE (decide (c = 9)) := by unfold tokX; rw [if_neg h3, if_neg h6]
          rw [e] at hd
          rw [tokC_w c (by omega)]
          exact forth_wide _ l _ hs hd
  · rw [encT_none c l hc] at h; have := (Prod.mk.inj (Prod.mk.inj h).2).1; omega
/-- what is read is no longer than four bytes to each that comes of it. -/
theorem reads_len {D : Tok} (B : ∀ l t k, D l = some (t, k) → k ≤ 4 * t.length) (l t : List UInt8) (h : Reads D l t) : l.length ≤ 4 * t.length := by
  induction h with
  | nil => simp
  | cons l t k r hl hd hr ih =>
    have := B l t k hd
    rw [List.length_drop] at ih
    rw [List.length_append]
    omega
theorem nn_len {l : List UInt8} (h : l ≠ []) : 1 ≤ l.length := List.length_pos_iff.2 h
theorem four_C (c : Int) (l t : List UInt8) (k : Nat) (h : tokC c l = some (t, k)) : k ≤ 4 * t.length := by
  unfold tokC at h
  split at h
  · cases l with
    | nil => cases h
    | cons b r =>
      simp only [tokS, Option.map_eq_some_iff] at h
      obtain ⟨u, hu, he⟩ := h
      obtain ⟨rfl, rfl⟩ := Prod.mk.inj he
      unfold sgS at hu
      split at hu
      · have := nn_len (encR_nn ((kgM (setS c)).2.getD b.toNat 0))
        rw [Option.some.inj hu] at this
        omega
      · cases hu
  · split at h
    · unfold tok2 at h
      match l, h with
      | [b], h =>
        simp only [tokD] at h
        split at h
        · obtain ⟨rfl, rfl⟩ := Prod.mk.inj (Option.some.inj h); simp
        · cases h
      | x :: y :: q, h =>
        simp only [tokD] at h
        split at h
        · obtain ⟨rfl, rfl⟩ := Prod.mk.inj (Option.some.inj h); simp
        · split at h
          · cases h
          · next hs => obtain ⟨rfl, rfl⟩ := Prod.mk.inj (Option.some.inj h); have := nn_len hs; omega
    · split at h
      · unfold tokU at h
        split at h
        · cases h
        · next hn =>
          obtain ⟨rfl, rfl⟩ := Prod.mk.inj (Option.some.inj h)
          have := dec_le l (fun e => hn (.inl e))
          rw [List.length_take]
          omega
      · unfold tokW at h
        split at h
        · cases h
        · obtain ⟨rfl, rfl⟩ := Prod.mk.inj (Option.some.inj h)
          have h4 := (wsign_bd (decide (c = 9)) l).2.2.2
          have := nn_len (encR_nn (wsign (decide (c = 9)) l).1)
          omega
theorem pos_A (c : Int) (l t : List UInt8) (k : Nat) (hd : tokC c l = some (t, k)) : 1 ≤ k := by
  by_cases h : c ≤ 7
  · exact pos_C c h l t k hd
  · rw [tokC_w c (by omega)] at hd; exact pos_W _ l t k hd
theorem forth_len (c : Int) (l b : List UInt8) (h : decT (tokC c) b = (l, none)) : b.length ≤ 4 * l.length := reads_len (four_C c) b l (reads_dec (pos_A c) b l h)
/-- what is encoded, or that nothing is. -/
theorem enc_forms (c : Int) (l : List UInt8) : (∃ b, encT c l = (b, 0, 0)) ∨ ∃ x y, encT c l = ([], x, y) ∧ x ≠ 0 := by
  by_cases hc : 0 ≤ c ∧ c ≤ 9
  · cases hs : (scanL l).2 with
    | some k => exact .inr ⟨2, (k : Nat), encT_bad c l hc k hs, by omega⟩
    | none =>
      by_cases h7 : c = 7
      · subst h7; exact .inl ⟨l, encT_u l hs⟩
      rw [encT_ok c l hc h7 hs]
      rcases decT (tokX c) l with ⟨t, o⟩
      cases o with
      | none => exact .inl ⟨t, rfl⟩
      | some q => exact .inr ⟨6, (q : Nat), rfl, by omega⟩
  · exact .inr ⟨5, 0, encT_none c l hc, by omega⟩
end Go.Proofs.YtmpndnebjahdjaaGreatDoor
