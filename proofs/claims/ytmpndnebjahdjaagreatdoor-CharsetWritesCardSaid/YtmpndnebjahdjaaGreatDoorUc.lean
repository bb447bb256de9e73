/- Walks: the reference's Encode: of signs of one byte, in units; a syllable's bytes; the code of a sign in the rows. -/
import Derived.Test.YtmpndnebjahdjaaGreatDoorUa
import Derived.Test.YtmpndnebjahdjaaGreatDoorTe
namespace Go.Proofs.YtmpndnebjahdjaaGreatDoor
open Go.RowKit
set_option linter.unusedVariables false
set_option linter.unusedSimpArgs false

/-- a sign's one byte. -/
def gLo (ls : Int → Option Int) (p : Int) : Option (List UInt8) := (ls p).map fun n => [UInt8.ofNat n.toNat]
theorem encG_bad {g : Int → Option (List UInt8)} : ∀ (ps : List Int) (a : Nat) (acc u : List UInt8) (q : Nat), encG g ps a acc = (u, some q) → u = [] := by
  intro ps
  induction ps with
  | nil => intro a acc u q h; cases h
  | cons p r ih =>
    intro a acc u q h
    rw [encG] at h
    cases hg : g p with
    | none => rw [hg] at h; exact (Prod.mk.inj h).1.symm
    | some b => rw [hg] at h; exact ih _ _ _ _ h
set_option maxRecDepth 100000 in
set_option maxHeartbeats 4000000 in
theorem encode5r_any (c : Int) (v : Value) (ps : List Int) (w : World) (h0 : 0 ≤ c) (h3 : c ≤ 3) (hrow : Row w v ps.length (icells ps)) (hs : ∀ p ∈ ps, Scal p) (hl : ps.length ≤ 1000000) :
    Calls Tryz.prog 49 #[.int .i64 c, v] w fun e w' => e = .returned (.tuple #[.string ⟨(encG (gLo (lsK (pairsM (setS c)))) ps 0 []).1.toArray⟩, .int .i64 (placeI (encG (gLo (lsK (pairsM (setS c)))) ps 0 []).2)]) ∧ Below w.heap.size w w' := by
  have K1 := Lib.hid (fun p w h => refBytes_any p h w)
  have K2 := Lib.hid (fun p w => byte5_any c p w h0 h3)
  have HA := Lib.hid (fun p n => ls_sign c h0 h3 p n)
  obtain ⟨ls, hls⟩ : ∃ ls, ls = lsK (pairsM (setS c)) := ⟨_, rfl⟩
  rw [← hls] at K2 HA ⊢
  obtain ⟨R, hR⟩ : ∃ R, R = encG (gLo ls) ps 0 [] := ⟨_, rfl⟩
  rw [← hR]
  obtain ⟨n, hn⟩ : ∃ n, n = ps.length := ⟨_, rfl⟩
  rw [← hn] at hrow hl
  obtain ⟨a, cap, rfl, hc⟩ := hrow
  have hnI : (n : Int) ≤ 1000000 := by omega
  have HN := Lib.hid hn
  have HC := Lib.hid hc
  have HS := Lib.hid hs
  have HR := Lib.hid hR
  have HLS := Lib.hid hls
  clear hn hc hs hR hls
  clear hl
  go_enter Tryz.func49, Tryz.ntmps49
  go_wp2
  go_loopw [6, 7, 8] (fun tv av iv wr => ∃ (i q : Nat) (T : ByteArray), iv = .int .i64 (i : Int) ∧ tv = .string T ∧ av = .int .i64 (q : Int) ∧ (i : Int) ≤ n ∧ (T.size : Int) ≤ i ∧ (q : Int) ≤ 4 * i ∧ Hid (encG (gLo ls) (ps.drop i) q (bl T) = R) ∧ Below w.heap.size w wr) (fun _ _ iv _ => n - (intOf iv).toNat)
  case atStart => exact ⟨0, 0, ⟨#[]⟩, rfl, rfl, rfl, by omega, by decide, by omega, Lib.hid HR.out.symm, Below.refl _ _⟩
  case round =>
    obtain ⟨i, q, T, rfl, rfl, rfl, hi, hT, hq, hQ, hbel⟩ := hrel
    by_cases hlt : (i : Int) < n
    · obtain ⟨p, hp⟩ := at_some ps i (by rw [← HN.out]; omega)
      obtain ⟨g, o, rfl, hcell⟩ := HC.out i (.int .i32 p) (by simp [icells, hp])
      have hcell := kc hbel hcell
      have hdr : ps.drop i = p :: ps.drop (i + 1) := by
        obtain ⟨h1, h2⟩ := List.getElem?_eq_some_iff.1 hp
        rw [List.drop_eq_getElem_cons h1, h2]
      have hsc := HS.out p (List.mem_of_getElem? hp)
      have k1 := fun w => K1.out p w hsc
      have k2 := fun w => K2.out p w
      have hqq := hQ.out
      rw [hdr] at hqq
      have hpl := encR_len p
      cases hv : ls p with
      | none =>
        rw [encG_none (by unfold gLo; rw [hv]; rfl)] at hqq
        rw [hv] at k2
        have k2 : ∀ w, Calls Tryz.prog 110 #[.int .i64 c, .int .i32 p] w fun e w' => e = .returned (.int .i64 (-1)) ∧ Below w.heap.size w w' := k2
        have K2' := Lib.hid k2
        have HQ := Lib.hid hqq
        clear k2 hqq
        clear hp hdr hQ hv k1 hpl hsc
        go_wp2_with (go_at_call 110; refine (K2'.out _).mono ?_; rintro e w1 ⟨rfl, hb1⟩)
        go_ret2
        exact ⟨by rw [← HQ.out]; rfl, bt hbel hb1⟩
      | some m =>
        obtain ⟨x, hx, hbx⟩ := HA.out p m hv
        subst hx
        rw [encG_some (b := [x]) (by unfold gLo; rw [hv]; simp)] at hqq
        rw [hv] at k2
        have k2 : ∀ w, Calls Tryz.prog 110 #[.int .i64 c, .int .i32 p] w fun e w' => e = .returned (.int .i64 (x.toNat : Int)) ∧ Below w.heap.size w w' := k2
        obtain ⟨V, hV⟩ : ∃ V : ByteArray, V = ⟨(encR p).toArray⟩ := ⟨_, rfl⟩
        have hVs : V.size = (encR p).length := by rw [hV]; simp [ByteArray.size]
        rw [← hV] at k1
        rw [← hVs] at hqq hpl
        have e1 : bl T ++ [x] = bl (T ++ ⟨#[x]⟩) := by simp [bl]
        rw [e1] at hqq
        have hTs : ((T ++ ⟨#[x]⟩ : ByteArray).size : Int) ≤ (i : Int) + 1 := by rw [← bl_length, ← e1, List.length_append, bl_length]; simp; omega
        have hxl := x.toNat_lt
        have hxn : ¬ (x.toNat : Int) < 0 := by omega
        have hw : IntKind.u8.wrap (x.toNat : Int) = (x.toNat : Int) := by rw [IntKind.wrap_u8]; omega
        have hcv := fun w => conv_one w x
        have hcell' : ∀ w1, Below wr.heap.size wr w1 → w1.cell? ⟨g, o + i, none⟩ = some (.int .i32 p) := fun w1 hb => kc hb hcell
        obtain ⟨hp1, hp4⟩ := hpl
        have K1' := Lib.hid k1
        have K2' := Lib.hid k2
        have HQ := Lib.hid hqq
        have HV := Lib.hid hV
        have HTS := Lib.hid hTs
        clear k1 k2 hqq hV hTs
        clear hp hdr hQ hv hbx hsc e1 hVs
        go_wp2_with (first
          | (go_at_call 110; refine (K2'.out _).mono ?_; rintro e w1 ⟨rfl, hb1⟩; have hcell2 := hcell' _ (bal hb1 (.cells #[.int .u8 (x.toNat : Int)] 5)))
          | (go_at_call 111; refine (K1'.out _).mono ?_; rintro e w2 ⟨rfl, hb2⟩))
        have hbz := bt (bal (bt hbel hb1) (.cells #[.int .u8 (x.toNat : Int)] 5)) hb2
        go_roundw
        case rel => exact ⟨i + 1, q + V.size, T ++ ⟨#[x]⟩, by go_num, rfl, by go_num, by omega, HTS.out, by omega, HQ, hbz⟩
        case measure => simp [intOf]; omega
    · have hin : i = n := by omega
      have e1 := hQ.out
      rw [List.drop_of_length_le (by rw [← HN.out]; omega)] at e1
      have E1 : Hid ((bl T, none) = R) := Lib.hid e1
      clear hQ hlt e1
      subst hin
      go_wp2
      go_ret2
      exact ⟨by rw [← E1.out]; rfl, hbel⟩
end Go.Proofs.YtmpndnebjahdjaaGreatDoor
/- Walks: the reference's Encode: units; a syllable's bytes; the code of a sign in the rows. -/
namespace Go.Proofs.YtmpndnebjahdjaaGreatDoor
open Go.RowKit
set_option linter.unusedVariables false
set_option linter.unusedSimpArgs false

theorem bigL_of (n : Int) (x y : UInt8) (h1 : n / 256 % 256 = x.toNat) (h2 : n % 256 = y.toNat) : bigL n 2 = [x, y] := by
  have hx := x.toNat_lt
  have hy := y.toNat_lt
  have e1 : n / 256 % 256 = ((x.toNat : Int) * 256 + y.toNat) / 256 % 256 := by omega
  have e2 : n % 256 = ((x.toNat : Int) * 256 + y.toNat) % 256 := by omega
  rw [← bigL2 x y]
  simp only [bigL]
  rw [e1, e2]
set_option maxRecDepth 100000 in
set_option maxHeartbeats 4000000 in
theorem encode3r_any (big : Bool) (v : Value) (ps : List Int) (w : World) (hrow : Row w v ps.length (icells ps)) (hs : ∀ p ∈ ps, Scal p) (hl : ps.length ≤ 1000000) :
    Calls Tryz.prog 50 #[v, .bool big] w fun e w' => e = .returned (.string ⟨(ps.flatMap (bytesP big)).toArray⟩) ∧ Below w.heap.size w w' := by
  have K1 := Lib.hid (fun u w a b => two3_any u big w a b)
  obtain ⟨n, hn⟩ : ∃ n, n = ps.length := ⟨_, rfl⟩
  rw [← hn] at hrow hl
  obtain ⟨a, cap, rfl, hc⟩ := hrow
  obtain ⟨R, hR⟩ : ∃ R : ByteArray, R = ⟨(ps.flatMap (bytesP big)).toArray⟩ := ⟨_, rfl⟩
  rw [← hR]
  have hnI : (n : Int) ≤ 1000000 := by omega
  have HN := Lib.hid hn
  have HC := Lib.hid hc
  have HS := Lib.hid hs
  have HR := Lib.hid hR
  clear hn hc hs hR
  clear hl
  go_enter Tryz.func50, Tryz.ntmps50
  go_wp2
  go_loopw [5, 6] (fun tv iv wr => ∃ (i : Nat) (T : ByteArray), iv = .int .i64 (i : Int) ∧ tv = .string T ∧ (i : Int) ≤ n ∧ (T.size : Int) ≤ 4 * i ∧ Hid (bl T = (ps.take i).flatMap (bytesP big)) ∧ Below w.heap.size w wr) (fun _ iv _ => n - (intOf iv).toNat)
  case atStart => exact ⟨0, ⟨#[]⟩, rfl, rfl, by omega, by decide, Lib.hid (by simp), Below.refl _ _⟩
  case round =>
    obtain ⟨i, T, rfl, rfl, hi, hT, hE, hbel⟩ := hrel
    by_cases hlt : (i : Int) < n
    · obtain ⟨p, hp⟩ := at_some ps i (by rw [← HN.out]; omega)
      obtain ⟨g, o, rfl, hcell⟩ := HC.out i (.int .i32 p) (by simp [icells, hp])
      have hcell := kc hbel hcell
      have hsc := HS.out p (List.mem_of_getElem? hp)
      obtain ⟨p0, p1, _⟩ := hsc
      have he : (ps.take (i + 1)).flatMap (bytesP big) = bl T ++ bytesP big p := by
        rw [List.take_add_one, hp, List.flatMap_append, hE.out]; simp
      by_cases hlow : p < 65536
      · have hbp : bytesP big p = unitB big p := by unfold bytesP unitsP; rw [if_pos hlow]; simp
        rw [hbp] at he
        have k1 := fun w => K1.out p w p0 hlow
        obtain ⟨V, hV⟩ : ∃ V : ByteArray, V = ⟨(unitB big p).toArray⟩ := ⟨_, rfl⟩
        have hVs : V.size = 2 := by rw [hV]; exact unitB_len big p
        rw [← hV] at k1
        have e1 : bl (T ++ V) = (ps.take (i + 1)).flatMap (bytesP big) := by rw [he, hV]; simp [bl]
        have hTV : ((T ++ V).size : Int) ≤ 4 * ((i : Int) + 1) := by
          have e0 : bl (T ++ V) = bl T ++ bl V := by simp [bl]
          rw [← bl_length, e0, List.length_append, bl_length, bl_length]; omega
        have K1' := Lib.hid k1
        have E1 := Lib.hid e1
        have HV := Lib.hid hV
        have HTV := Lib.hid hTV
        clear k1 e1 hV hTV
        clear hp hE he hbp
        go_wp2_with (go_at_call 112; refine (K1'.out _).mono ?_; rintro e w1 ⟨rfl, hb1⟩)
        go_roundw
        case rel => exact ⟨i + 1, T ++ V, by go_num, rfl, by omega, HTV.out, E1, bt hbel hb1⟩
        case measure => simp [intOf]; omega
      · have hbp : bytesP big p = unitB big (55296 + (p - 65536) / 1024) ++ unitB big (56320 + (p - 65536) % 1024) := by unfold bytesP unitsP; rw [if_neg hlow]; simp
        rw [hbp] at he
        have k1 := fun w => K1.out (55296 + (p - 65536) / 1024) w (by omega) (by omega)
        have k2 := fun w => K1.out (56320 + (p - 65536) % 1024) w (by omega) (by omega)
        obtain ⟨U, hU⟩ : ∃ U : ByteArray, U = ⟨(unitB big (55296 + (p - 65536) / 1024)).toArray⟩ := ⟨_, rfl⟩
        obtain ⟨V, hV⟩ : ∃ V : ByteArray, V = ⟨(unitB big (56320 + (p - 65536) % 1024)).toArray⟩ := ⟨_, rfl⟩
        have hUs : U.size = 2 := by rw [hU]; exact unitB_len big _
        have hVs : V.size = 2 := by rw [hV]; exact unitB_len big _
        rw [← hU] at k1
        rw [← hV] at k2
        have e1 : bl (T ++ U ++ V) = (ps.take (i + 1)).flatMap (bytesP big) := by rw [he, hU, hV]; simp [bl]
        have hTV : ((T ++ U ++ V).size : Int) ≤ 4 * ((i : Int) + 1) := by
          have e0 : bl (T ++ U ++ V) = bl T ++ (bl U ++ bl V) := by simp [bl]
          rw [← bl_length, e0, List.length_append, List.length_append, bl_length, bl_length, bl_length]; omega
        have hTU : ((T ++ U).size : Int) ≤ 4 * (i : Int) + 2 := by
          have e0 : bl (T ++ U) = bl T ++ bl U := by simp [bl]
          rw [← bl_length, e0, List.length_append, bl_length, bl_length]; omega
        have K1' := Lib.hid k1
        have K2' := Lib.hid k2
        have E1 := Lib.hid e1
        have HV := Lib.hid hV
        have HU := Lib.hid hU
        have HTV := Lib.hid hTV
        clear k1 k2 e1 hV hU hTV
        clear hp hE he hbp
        go_wp2_with (first
          | (go_at_call 112; with_reducible refine (K1'.out _).mono ?_; rintro e w1 ⟨rfl, hb1⟩)
          | (go_at_call 112; with_reducible refine (K2'.out _).mono ?_; rintro e w2 ⟨rfl, hb2⟩))
        go_roundw
        case rel => exact ⟨i + 1, T ++ U ++ V, by go_num, rfl, by omega, HTV.out, E1, bt (bt hbel hb1) hb2⟩
        case measure => simp [intOf]; omega
    · have hin : i = n := by omega
      have e1 : T = R := by
        have h := hE.out
        rw [List.take_of_length_le (by rw [← HN.out]; omega)] at h
        rw [HR.out, ← h]
      clear hE hlt
      subst hin
      subst e1
      go_wp2
      go_ret
      exact ⟨rfl, hbel⟩
set_option maxRecDepth 100000 in
set_option maxHeartbeats 4000000 in
theorem syllable9_any (p : Int) (w : World) (h0 : 44032 ≤ p) (h1 : p ≤ 55203) :
    Calls Tryz.prog 116 #[.int .i32 p] w fun e w' => e = .returned (.string ⟨(bigL (wCode p) 2).toArray⟩) ∧ Below w.heap.size w w' := by
  obtain ⟨n, hn⟩ : ∃ n : Nat, p = 44032 + (n : Int) := ⟨(p - 44032).toNat, by omega⟩
  have hn2 : n < 11172 := by omega
  have k1 := fun z hz w => (show Calls Tryz.prog 171 #[.int .i64 z] w fun e w' => e = .returned (.int .i64 (cntB (fun i => inN i == inN n) n : Nat)) ∧ w = w' from by rw [show z = (n : Int) from hz]; exact rank7_any n w hn2)
  have k2 := fun z hz w => (show Calls Tryz.prog 172 #[.int .i64 z] w fun e w' => e = .returned (.bool (inN n)) ∧ w = w' from by rw [show z = (n : Int) from hz]; exact in_any n w hn2)
  have hr := rankM_cnt n hn2 (inN n) rfl
  have hin := rankIn_inN n hn2
  have hcle : ∀ f : Nat → Bool, cntB f n ≤ n := by
    intro f
    clear k1 k2 hr hin hn hn2
    induction n with
    | zero => exact Nat.le_refl _
    | succ n ih => rw [cntB]; split <;> omega
  have hkb := hcle (fun i => inN i == inN n)
  obtain ⟨k, hk⟩ : ∃ k, k = cntB (fun i => inN i == inN n) n := ⟨_, rfl⟩
  rw [← hk] at k1 hr hkb
  have hkI : (k : Int) ≤ 11172 := by omega
  have hwc : wCode p = if inN n = true then (161 + ((k : Int) + 1410) / 94) * 256 + (161 + ((k : Int) + 1410) % 94)
      else if (k : Int) < 5696 then (129 + (k : Int) / 178) * 256 + secondM ((k : Int) % 178) else (161 + ((k : Int) - 5696) / 84) * 256 + secondM (((k : Int) - 5696) % 84) := by
    rw [hn]; unfold wCode; rw [hin, hr]
  clear hr hin hcle hk
  obtain ⟨r, hrr⟩ : ∃ r, r = inN n := ⟨_, rfl⟩
  rw [← hrr] at k2 hwc
  have K1 := Lib.hid k1
  have K2 := Lib.hid k2
  have HN := Lib.hid hn
  have HN2 := Lib.hid hn2
  have HKB := Lib.hid hkb
  have HRR := Lib.hid hrr
  clear k1 k2 hn hn2 hkb hrr
  cases r with
  | true =>
    rw [if_pos rfl] at hwc
    rw [hwc]
    obtain ⟨x, hx⟩ := u8_of ((176 + (k : Int) / 94) % 256) (by omega) (by omega)
    obtain ⟨y, hy⟩ := u8_of (161 + (k : Int) % 94) (by omega) (by omega)
    have e : bigL ((161 + ((k : Int) + 1410) / 94) * 256 + (161 + ((k : Int) + 1410) % 94)) 2 = [x, y] := by
      exact bigL_of _ x y (by omega) (by omega)
    rw [e]
    have w0 : IntKind.u8.wrap (176 + (k : Int) / 94) = (x.toNat : Int) := by rw [IntKind.wrap_u8]; omega
    have w1 : IntKind.u8.wrap (161 + (k : Int) % 94) = (y.toNat : Int) := by rw [IntKind.wrap_u8]; omega
    have hcv := fun w => conv_two w x y
    clear hwc e hx hy
    go_enter Tryz.func116, Tryz.ntmps116
    go_wp2_with (first
      | (go_at_call 171; refine (K1.out _ (by have := HN.out; omega) _).mono ?_; rintro e w1 ⟨rfl, rfl⟩)
      | (go_at_call 172; refine (K2.out _ (by have := HN.out; omega) _).mono ?_; rintro e w1 ⟨rfl, rfl⟩))
    go_ret
    exact ⟨rfl, bal (Below.refl _ _) _⟩
  | false =>
    rw [if_neg (by decide)] at hwc
    obtain ⟨ld, t, hld, ht0, ht1, hw2⟩ : ∃ ld t : Int, (ld = if (k : Int) < 5696 then 129 + (k : Int) / 178 else 161 + ((k : Int) - 5696) / 84) ∧ 0 ≤ t ∧ t ≤ 177 ∧ (t = if (k : Int) < 5696 then (k : Int) % 178 else ((k : Int) - 5696) % 84) := ⟨_, _, rfl, by split <;> omega, by split <;> omega, rfl⟩
    have hwc2 : wCode p = ld * 256 + secondM t := by rw [hwc, hld, hw2]; split <;> rfl
    rw [hwc2]
    have hl0 : 129 ≤ ld := by rw [hld]; split <;> omega
    have hl1 : ld ≤ 250 := by rw [hld]; split <;> omega
    obtain ⟨s0, s1⟩ := secondM_bd t ht0 ht1
    obtain ⟨x, hx⟩ := u8_of ld (by omega) (by omega)
    obtain ⟨y, hy⟩ := u8_of (secondM t) (by omega) (by omega)
    rw [hx, hy, bigL2]
    have w0 : IntKind.u8.wrap ld = (x.toNat : Int) := by rw [IntKind.wrap_u8]; omega
    have hcv := fun w => conv_two w x y
    clear hwc hwc2
    have hsm : secondM t = if t < 26 then 65 + t else if t < 52 then 97 + t - 26 else 129 + t - 52 := rfl
    have wS : ∀ z : Int, z = secondM t → IntKind.u8.wrap z = (y.toNat : Int) := fun z hz => by rw [hz, hy, IntKind.wrap_u8]; have := y.toNat_lt; omega
    have WS := Lib.hid wS
    have HX := Lib.hid hx
    have HY := Lib.hid hy
    clear wS hx hy
    by_cases c1 : (k : Int) < 5696
    · rw [if_pos c1] at hld hw2
      rw [hld] at w0
      rw [hw2] at hsm WS ht0 ht1 s0 s1
      by_cases c2 : (k : Int) % 178 < 26
      · rw [if_pos c2] at hsm
        have w1 := WS.out (65 + (k : Int) % 178) hsm.symm
        clear hld hw2 hsm hl0 hl1
        go_enter Tryz.func116, Tryz.ntmps116
        go_wp2_with (first
          | (go_at_call 171; refine (K1.out _ (by have := HN.out; omega) _).mono ?_; rintro e w1 ⟨rfl, rfl⟩)
          | (go_at_call 172; refine (K2.out _ (by have := HN.out; omega) _).mono ?_; rintro e w1 ⟨rfl, rfl⟩))
        go_ret
        exact ⟨rfl, bal (Below.refl _ _) _⟩
      rw [if_neg c2] at hsm
      by_cases c3 : (k : Int) % 178 < 52
      · rw [if_pos c3] at hsm
        have w1 := WS.out (97 + (k : Int) % 178 - 26) hsm.symm
        clear hld hw2 hsm hl0 hl1
        go_enter Tryz.func116, Tryz.ntmps116
        go_wp2_with (first
          | (go_at_call 171; refine (K1.out _ (by have := HN.out; omega) _).mono ?_; rintro e w1 ⟨rfl, rfl⟩)
          | (go_at_call 172; refine (K2.out _ (by have := HN.out; omega) _).mono ?_; rintro e w1 ⟨rfl, rfl⟩))
        go_ret
        exact ⟨rfl, bal (Below.refl _ _) _⟩
      · rw [if_neg c3] at hsm
        have w1 := WS.out (129 + (k : Int) % 178 - 52) hsm.symm
        clear hld hw2 hsm hl0 hl1
        go_enter Tryz.func116, Tryz.ntmps116
        go_wp2_with (first
          | (go_at_call 171; refine (K1.out _ (by have := HN.out; omega) _).mono ?_; rintro e w1 ⟨rfl, rfl⟩)
          | (go_at_call 172; refine (K2.out _ (by have := HN.out; omega) _).mono ?_; rintro e w1 ⟨rfl, rfl⟩))
        go_ret
        exact ⟨rfl, bal (Below.refl _ _) _⟩
    · rw [if_neg c1] at hld hw2
      rw [hld] at w0
      rw [hw2] at hsm WS ht0 ht1 s0 s1
      by_cases c2 : ((k : Int) - 5696) % 84 < 26
      · rw [if_pos c2] at hsm
        have w1 := WS.out (65 + ((k : Int) - 5696) % 84) hsm.symm
        clear hld hw2 hsm hl0 hl1
        go_enter Tryz.func116, Tryz.ntmps116
        go_wp2_with (first
          | (go_at_call 171; refine (K1.out _ (by have := HN.out; omega) _).mono ?_; rintro e w1 ⟨rfl, rfl⟩)
          | (go_at_call 172; refine (K2.out _ (by have := HN.out; omega) _).mono ?_; rintro e w1 ⟨rfl, rfl⟩))
        go_ret
        exact ⟨rfl, bal (Below.refl _ _) _⟩
      rw [if_neg c2] at hsm
      by_cases c3 : ((k : Int) - 5696) % 84 < 52
      · rw [if_pos c3] at hsm
        have w1 := WS.out (97 + ((k : Int) - 5696) % 84 - 26) hsm.symm
        clear hld hw2 hsm hl0 hl1
        go_enter Tryz.func116, Tryz.ntmps116
        go_wp2_with (first
          | (go_at_call 171; refine (K1.out _ (by have := HN.out; omega) _).mono ?_; rintro e w1 ⟨rfl, rfl⟩)
          | (go_at_call 172; refine (K2.out _ (by have := HN.out; omega) _).mono ?_; rintro e w1 ⟨rfl, rfl⟩))
        go_ret
        exact ⟨rfl, bal (Below.refl _ _) _⟩
      · rw [if_neg c3] at hsm
        have w1 := WS.out (129 + ((k : Int) - 5696) % 84 - 52) hsm.symm
        clear hld hw2 hsm hl0 hl1
        go_enter Tryz.func116, Tryz.ntmps116
        go_wp2_with (first
          | (go_at_call 171; refine (K1.out _ (by have := HN.out; omega) _).mono ?_; rintro e w1 ⟨rfl, rfl⟩)
          | (go_at_call 172; refine (K2.out _ (by have := HN.out; omega) _).mono ?_; rintro e w1 ⟨rfl, rfl⟩))
        go_ret
        exact ⟨rfl, bal (Below.refl _ _) _⟩
end Go.Proofs.YtmpndnebjahdjaaGreatDoor
