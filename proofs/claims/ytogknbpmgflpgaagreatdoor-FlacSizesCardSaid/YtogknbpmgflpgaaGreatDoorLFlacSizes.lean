/- FlacSizes holds: what is printed is the mark, blocks whose lengths tell how many bytes they have, of which the last alone says so, and the sound. No condition. -/
import Derived.Test.YtogknbpmgflpgaaGreatDoorFr
import Derived.Test.YtogknbpmgflpgaaGreatDoorTie
import Derived.Test.YtogknbpmgflpgaaGreatDoorCards
import Derived.Test.YtogknbpmgflpgaaGreatDoorKz
import Derived.Test.YtogknbpmgflpgaaGreatDoorKFlacSizes
import Derived.Test.YtogknbpmgflpgaaGreatDoorFd
namespace Go.Proofs.YtogknbpmgflpgaaGreatDoor.flacSizes
open Go.ChangeShapes Go.WideShapes Go.ChangeAt Go.RowKit Go.ChangeMaps
set_option linter.unusedVariables false
set_option linter.unusedSimpArgs false

set_option maxRecDepth 100000 in
set_option maxHeartbeats 8000000 in
theorem walk_dark (vm vb : Value) (f : Fl) (w0 : okFl f) (w : World) (R0 : FlRow w vm vb f) (hT : TW w) (hlt : flightM f = false) :
    Calls Tryz.prog 7 #[flV vm vb f] w fun e w' => e = .returned (.bool true) ∧ Below w.heap.size w w' := by
  have KA := Lib.hid awake21in_any
  have k1 : ∀ w', Below w.heap.size w w' → Calls Tryz.prog 21 #[flV vm vb f] w' fun e w'' => e = .returned (.bool false) ∧ Below w'.heap.size w' w'' := fun w' hb => by
    have := flight_any vm vb f w' ⟨R0.1.keep hb, R0.2.keep hb⟩ w0
    rw [hlt] at this
    exact this
  obtain ⟨⟨am, cm, rfl, _⟩, ⟨an, cn, rfl, _⟩⟩ := R0
  unfold flV at k1 ⊢
  obtain ⟨ms, ⟨vt, vs, ns⟩, at_, snd⟩ := f
  simp only at k1 ⊢
  generalize ms.length = n at *
  generalize ns.length = nn at *
  obtain ⟨W, hW⟩ : ∃ W, W = w.alloc (.cells #[.slice am n cm, .string vt, .int .i64 vs, .slice an nn cn, .int .i64 at_, .string snd] 51) := ⟨_, rfl⟩
  have hbW : Below w.heap.size w W := by rw [hW]; exact bal (Below.refl _ _) _
  have lc : ∀ (i : Nat) (u : Value), (#[.slice am n cm, .string vt, .int .i64 vs, .slice an nn cn, .int .i64 at_, .string snd] : Array Value)[i]? = some u → W.cell? ⟨w.heap.size, i, none⟩ = some u := by
    intro i u hu; rw [hW]; exact (Live.fresh w _ 51 i u hu).1
  have c0 := lc 0 _ rfl
  have c1 := lc 1 _ rfl
  have c2 := lc 2 _ rfl
  have c3 := lc 3 _ rfl
  have c4 := lc 4 _ rfl
  have c5 := lc 5 _ rfl
  have hTW := hT.bel hbW
  clear lc w0
  have K1 := Lib.hid k1
  have HBW := Lib.hid hbW
  have HTW := Lib.hid hTW
  clear k1 hbW hTW
  clear hlt
  go_enter Tryz.func7, Tryz.ntmps7
  go_wp2_with fail
  rw [← hW]
  clear hW
  go_wp2_with (first
    | (go_at_call 21; refine (K1.out _ HBW.out).mono ?_; rintro e w2 ⟨rfl, hb2⟩)
    | (go_at_call 15; refine (KA.out _ (HTW.out.bel hb2)).mono ?_; rintro e w3 ⟨rfl, hb3⟩))
  go_ret
  exact ⟨rfl, HBW.out.trans ((bt hb2 hb3).mono HBW.out.size)⟩
set_option maxRecDepth 100000 in
set_option maxHeartbeats 8000000 in
theorem walk_bad (vm vb : Value) (f : Fl) (w0 : okFl f) (w : World) (R0 : FlRow w vm vb f) (hT : TW w) (hlt : flightM f = true) (hc : (fcheckM f).1 ≠ 0) :
    Calls Tryz.prog 7 #[flV vm vb f] w fun e w' => e = .returned (.bool true) ∧ Below w.heap.size w w' := by
  have KA := Lib.hid awake21in_any
  have k1 : ∀ w', Below w.heap.size w w' → Calls Tryz.prog 21 #[flV vm vb f] w' fun e w'' => e = .returned (.bool true) ∧ Below w'.heap.size w' w'' := fun w' hb => by
    have := flight_any vm vb f w' ⟨R0.1.keep hb, R0.2.keep hb⟩ w0
    rw [hlt] at this
    exact this
  obtain ⟨s1, s2, s3, s4, s5, s6, s7, s8⟩ := light_smF hlt
  have k2 : ∀ w', Below w.heap.size w w' → Calls Tryz.prog 22 #[flV vm vb f] w' fun e w'' => e = .returned (.tuple #[.string ⟨#[]⟩, .agg #[.int .i64 (fcheckM f).1, .int .i64 (fcheckM f).2]]) ∧ Below w'.heap.size w' w'' := fun w' hb => by
    have := fprint_any vm vb f w' (hT.bel hb) ⟨R0.1.keep hb, R0.2.keep hb⟩ s1 (by omega) (fun m hm => by have := s3 m hm; omega) (by omega)
    unfold FPrintPost at this
    rw [if_neg hc] at this
    exact this
  have k3 := fun w => bad_any (fcheckM f).1 (fcheckM f).2 w
  have hd : (!decide ((fcheckM f).1 = 0)) = true := by simpa using hc
  rw [hd] at k3
  generalize fcheckM f = C at *
  obtain ⟨ce, ca⟩ := C
  simp only at k2 k3
  obtain ⟨⟨am, cm, rfl, _⟩, ⟨an, cn, rfl, _⟩⟩ := R0
  unfold flV at k1 k2 ⊢
  clear s1 s2 s3 s4 s5 s6 s7 s8 hlt hc hd
  obtain ⟨ms, ⟨vt, vs, ns⟩, at_, snd⟩ := f
  simp only at k1 k2 ⊢
  generalize ms.length = n at *
  generalize ns.length = nn at *
  obtain ⟨W, hW⟩ : ∃ W, W = w.alloc (.cells #[.slice am n cm, .string vt, .int .i64 vs, .slice an nn cn, .int .i64 at_, .string snd] 51) := ⟨_, rfl⟩
  have hbW : Below w.heap.size w W := by rw [hW]; exact bal (Below.refl _ _) _
  have lc : ∀ (i : Nat) (u : Value), (#[.slice am n cm, .string vt, .int .i64 vs, .slice an nn cn, .int .i64 at_, .string snd] : Array Value)[i]? = some u → W.cell? ⟨w.heap.size, i, none⟩ = some u := by
    intro i u hu; rw [hW]; exact (Live.fresh w _ 51 i u hu).1
  have c0 := lc 0 _ rfl
  have c1 := lc 1 _ rfl
  have c2 := lc 2 _ rfl
  have c3 := lc 3 _ rfl
  have c4 := lc 4 _ rfl
  have c5 := lc 5 _ rfl
  have hTW := hT.bel hbW
  clear lc w0
  have K1 := Lib.hid k1
  have K2 := Lib.hid k2
  have K3 := Lib.hid k3
  have HBW := Lib.hid hbW
  have HTW := Lib.hid hTW
  clear k1 k2 k3 hbW hTW
  go_enter Tryz.func7, Tryz.ntmps7
  go_wp2_with fail
  rw [← hW]
  clear hW
  go_wp2_with (first
    | (go_at_call 21; refine (K1.out _ HBW.out).mono ?_; rintro e w2 ⟨rfl, hb2⟩; have c0 := kc hb2 c0; have c1 := kc hb2 c1; have c2 := kc hb2 c2; have c3 := kc hb2 c3; have c4 := kc hb2 c4; have c5 := kc hb2 c5)
    | (go_at_call 22; refine (K2.out _ (HBW.out.trans (hb2.mono HBW.out.size))).mono ?_; rintro e w3 ⟨rfl, hb3⟩; have hb4 := bt hb2 (bal hb3 (.cells #[.int .i64 ce, .int .i64 ca] 38)))
    | (go_at_call 12; refine (K3.out _).mono ?_; rintro e w5 ⟨rfl, hb5⟩; have hb6 := bt hb4 hb5)
    | (go_at_call 15; refine (KA.out _ (HTW.out.bel hb6)).mono ?_; rintro e w7 ⟨rfl, hb7⟩))
  go_ret
  exact ⟨rfl, HBW.out.trans ((bt hb6 hb7).mono HBW.out.size)⟩
theorem be3_sum (L : Nat) (h : L < 16777216) : ∃ b1 b2 b3 : UInt8, be3 L = [b1, b2, b3] ∧ b1.toNat * 65536 + b2.toNat * 256 + b3.toNat = L := by
  refine ⟨_, _, _, rfl, ?_⟩
  simp only [UInt8.toNat_ofNat']
  omega
/-- what is left of the printed text at a block. -/
theorem left_step (B : Bk) (ms : List Mt) (snd t : ByteArray) (k n : Nat) (x : Mt) (hn : n = ms.length) (hk : k < n) (hx : ms[k]? = some x) (hkd : x.kind ≤ 126) (hL : (bodyL B x).length < 16777216) (ht : bl t = metasL B (ms.drop k) ++ bl snd) :
    ∃ (L : Nat) (c0 b1 b2 b3 : UInt8), L = (bodyL B x).length ∧ 4 + L ≤ t.size ∧ (bl t)[0]? = some c0 ∧ (bl t)[1]? = some b1 ∧ (bl t)[2]? = some b2 ∧ (bl t)[3]? = some b3 ∧ c0.toNat = x.kind + (if k + 1 = n then 128 else 0) ∧
      b1.toNat * 65536 + b2.toNat * 256 + b3.toNat = L ∧ bl (t.extract (4 + L) t.size) = metasL B (ms.drop (k + 1)) ++ bl snd := by
  obtain ⟨h1, h2⟩ := List.getElem?_eq_some_iff.1 hx
  obtain ⟨b1, b2, b3, e1, e2⟩ := be3_sum _ hL
  rw [List.drop_eq_getElem_cons h1, h2, metasL, ends_iff ms k n hn hk] at ht
  unfold metaL at ht
  rw [e1] at ht
  have hlen := congrArg List.length ht
  simp only [List.length_append, List.length_cons, List.length_nil, bl_length] at hlen
  refine ⟨_, UInt8.ofNat (x.kind + if decide (k + 1 = n) = true then 128 else 0), b1, b2, b3, rfl, by omega, by rw [ht]; rfl, by rw [ht]; rfl, by rw [ht]; rfl, by rw [ht]; rfl, ?_, e2, ?_⟩
  · rw [UInt8.toNat_ofNat']
    by_cases h : k + 1 = n
    · simp [h]; omega
    · simp [h]; omega
  · have e3 := extract_list t (4 + (bodyL B x).length)
    show (t.extract (4 + (bodyL B x).length) t.size).data.toList = _
    rw [e3]
    show (bl t).drop _ = _
    have e4 : bl t = ([UInt8.ofNat (x.kind + if decide (k + 1 = n) = true then 128 else 0)] ++ [b1, b2, b3] ++ bodyL B x) ++ (metasL B (ms.drop (k + 1)) ++ bl snd) := by rw [ht]; simp only [List.append_assoc]
    rw [e4, show 4 + (bodyL B x).length = ([UInt8.ofNat (x.kind + if decide (k + 1 = n) = true then 128 else 0)] ++ [b1, b2, b3] ++ bodyL B x).length by simp; omega, List.drop_left]
set_option maxRecDepth 100000 in
set_option maxHeartbeats 16000000 in
theorem walk_good (vm vb : Value) (f : Fl) (w0 : okFl f) (w : World) (R0 : FlRow w vm vb f) (hT : TW w) (hlt : flightM f = true) (hc : (fcheckM f).1 = 0) :
    Calls Tryz.prog 7 #[flV vm vb f] w fun e w' => e = .returned (.bool true) ∧ Below w.heap.size w w' := by
  have KA := Lib.hid awake21in_any
  have k1 : ∀ w', Below w.heap.size w w' → Calls Tryz.prog 21 #[flV vm vb f] w' fun e w'' => e = .returned (.bool true) ∧ Below w'.heap.size w' w'' := fun w' hb => by
    have := flight_any vm vb f w' ⟨R0.1.keep hb, R0.2.keep hb⟩ w0
    rw [hlt] at this
    exact this
  obtain ⟨s1, s2, s3, s4, s5, s6, s7, s8⟩ := light_smF hlt
  have hcz := fcheck_fst hc
  obtain ⟨S, hS⟩ : ∃ S : ByteArray, S = ⟨(fprintL f).toArray⟩ := ⟨_, rfl⟩
  have k2 : ∀ w', Below w.heap.size w w' → Calls Tryz.prog 22 #[flV vm vb f] w' fun e w'' => e = .returned (.tuple #[.string S, .agg #[.int .i64 0, .int .i64 0]]) ∧ Below w'.heap.size w' w'' := fun w' hb => by
    have := fprint_any vm vb f w' (hT.bel hb) ⟨R0.1.keep hb, R0.2.keep hb⟩ s1 (by omega) (fun m hm => by have := s3 m hm; omega) (by omega)
    unfold FPrintPost at this
    rw [hcz, if_pos rfl, ← hS] at this
    exact this
  have k3 := fun w => bad_any 0 0 w
  have hkd := preOK_kind f f.ms 0 false ((fcheck_iff f).1 hcz).2.1
  have hSb : bl S = bl letters ++ (metasL f.b f.ms ++ bl f.sound) := by rw [hS, ← List.append_assoc]; rfl
  have hSz : S.size ≤ 4000000 := by rw [hS]; exact s7
  have hS4 : 4 ≤ S.size := by
    have := congrArg List.length hSb
    simp only [List.length_append, bl_length] at this
    have h4 : letters.size = 4 := rfl
    omega
  have hSx : S.extract 0 4 = ⟨#[102, 76, 97, 67]⟩ := by
    apply ByteArray.ext
    apply Array.toList_inj.1
    rw [ByteArray.data_extract, Array.toList_extract, List.extract_eq_take_drop]
    show ((bl S).drop 0).take (4 - 0) = _
    rw [List.drop_zero, hSb]
    rfl
  have hSt : bl (S.extract 4 S.size) = metasL f.b f.ms ++ bl f.sound := by
    show (S.extract 4 S.size).data.toList = _
    rw [extract_list]
    show (bl S).drop 4 = _
    rw [hSb]
    rfl
  obtain ⟨⟨am, cm, rfl, hcm⟩, ⟨an, cn, rfl, _⟩⟩ := R0
  unfold flV at k1 k2 ⊢
  obtain ⟨B, hB⟩ : ∃ B, B = f.b := ⟨_, rfl⟩
  rw [← hB] at hSt s6
  clear s1 s5 s7 s8 hlt hc hcz hS hSb
  obtain ⟨ms, ⟨vt, vs, ns⟩, at_, snd⟩ := f
  simp only at k1 k2 hcm hSt s2 s3 s4 s6 hkd ⊢
  obtain ⟨n, hn⟩ : ∃ n, n = ms.length := ⟨_, rfl⟩
  rw [← hn] at k1 k2 s2 ⊢
  generalize ns.length = nn at *
  obtain ⟨W, hW⟩ : ∃ W, W = w.alloc (.cells #[.slice am n cm, .string vt, .int .i64 vs, .slice an nn cn, .int .i64 at_, .string snd] 51) := ⟨_, rfl⟩
  have hbW : Below w.heap.size w W := by rw [hW]; exact bal (Below.refl _ _) _
  have lc : ∀ (i : Nat) (u : Value), (#[.slice am n cm, .string vt, .int .i64 vs, .slice an nn cn, .int .i64 at_, .string snd] : Array Value)[i]? = some u → W.cell? ⟨w.heap.size, i, none⟩ = some u := by
    intro i u hu; rw [hW]; exact (Live.fresh w _ 51 i u hu).1
  have c0 := lc 0 _ rfl
  have c1 := lc 1 _ rfl
  have c2 := lc 2 _ rfl
  have c3 := lc 3 _ rfl
  have c4 := lc 4 _ rfl
  have c5 := lc 5 _ rfl
  have C0 := Lib.hid c0
  have C5 := Lib.hid c5
  have hTW := hT.bel hbW
  have hS4' : ¬ (S.size : Int) < 4 := by omega
  have m4 : (4 : Int) ≤ (S.size : Int) := by omega
  clear lc w0 hB
  have K1 := Lib.hid k1
  have K2 := Lib.hid k2
  have K3 := Lib.hid k3
  have HBW := Lib.hid hbW
  have HTW := Lib.hid hTW
  have HC := Lib.hid hcm
  have HN := Lib.hid hn
  have S3 := Lib.hid s3
  have S6 := Lib.hid s6
  have HKD := Lib.hid hkd
  have HST := Lib.hid hSt
  have HSZ := Lib.hid hSz
  clear k1 k2 k3 hbW hTW hcm hn s3 s6 hkd hSt hSz
  go_enter Tryz.func7, Tryz.ntmps7
  go_wp2_with fail
  rw [← hW]
  clear hW
  go_wp2_with (first
    | (go_at_call 21; refine (K1.out _ HBW.out).mono ?_; rintro e w2 ⟨rfl, hb2⟩; have c0 := kc hb2 c0; have c1 := kc hb2 c1; have c2 := kc hb2 c2; have c3 := kc hb2 c3; have c4 := kc hb2 c4; have c5 := kc hb2 c5)
    | (go_at_call 22; refine (K2.out _ (HBW.out.trans (hb2.mono HBW.out.size))).mono ?_; rintro e w3 ⟨rfl, hb3⟩; have hb4 := bt hb2 (bal hb3 (.cells #[.int .i64 0, .int .i64 0] 38)))
    | (go_at_call 12; refine (K3.out _).mono ?_; rintro e w5 ⟨rfl, hb5⟩; have hb6 := bt hb4 hb5; have d0 := kc hb6 C0.out))
  go_loopw [3, 32] (fun sv iv wr => ∃ (k : Nat) (t : ByteArray), sv = .string t ∧ iv = .int .i64 (k : Int) ∧ k ≤ n ∧ t.size ≤ 4000000 ∧ Hid (bl t = metasL B (ms.drop k) ++ bl snd) ∧ Below W.heap.size W wr) (fun _ iv _ => n - (intOf iv).toNat)
  case atStart => exact ⟨0, S.extract 4 S.size, rfl, rfl, Nat.zero_le _, by rw [ByteArray.size_extract]; have := HSZ.out; omega, Lib.hid (by rw [List.drop_zero]; exact HST.out), hb6⟩
  case round =>
    obtain ⟨k, t, rfl, rfl, hk, htz, hA, hbel⟩ := hrel
    clear d0 hSx hS4 hS4' m4
    have e0 := kc hbel C0.out
    have e5 := kc hbel C5.out
    by_cases hlt : k < n
    · obtain ⟨x, hx⟩ := at_some ms k (by rw [← HN.out]; exact hlt)
      obtain ⟨g, o, rfl, d0, d1⟩ := mt_at HC.out k x hx
      have d0 := kc hbel (kc HBW.out d0)
      have b1 := HKD.out x (List.mem_of_getElem? hx)
      have b2 := S6.out x (List.mem_of_getElem? hx)
      obtain ⟨L, q0, q1, q2, q3, hLe, hLt, z0, z1, z2, z3, v0, v1, hnx⟩ := left_step B ms snd t k n x HN.out hlt hx b1 (by omega) hA.out
      have X0 : ∀ h, t[0]'h = q0 := atB_of t 0 q0 z0
      have X1 : ∀ h, t[1]'h = q1 := atB_of t 1 q1 z1
      have X2 : ∀ h, t[2]'h = q2 := atB_of t 2 q2 z2
      have X3 : ∀ h, t[3]'h = q3 := atB_of t 3 q3 z3
      have p0 := q0.toNat_lt
      have p1 := q1.toNat_lt
      have p2 := q2.toNat_lt
      have p3 := q3.toNat_lt
      have ht4 : ¬ (t.size : Int) < 4 := by omega
      have hj1 : bits .or .i64 ((q1.toNat : Int) * 65536) ((q2.toNat : Int) * 256) = (q1.toNat : Int) * 65536 + (q2.toNat : Int) * 256 := i64_join 16 _ _ (by omega) (by omega) (by omega) (by omega) (by omega) (by omega)
      have hj2 : bits .or .i64 ((q1.toNat : Int) * 65536 + (q2.toNat : Int) * 256) (q3.toNat : Int) = (L : Int) := by
        rw [i64_join 8 _ _ (by omega) (by omega) (by omega) (by omega) (by omega) (by omega)]; omega
      have hw4 : IntKind.i64.wrap (4 + (L : Int)) = 4 + (L : Int) := wi64 _ (by omega) (by omega)
      have hw1 : IntKind.i64.wrap ((n : Int) - 1) = (n : Int) - 1 := wi64 _ (by omega) (by omega)
      have hge : ¬ (t.size : Int) < 4 + (L : Int) := by omega
      have m1 : (0 : Int) ≤ 4 + (L : Int) := by omega
      have m2 : 4 + (L : Int) ≤ (t.size : Int) := by omega
      have hnt : (4 + (L : Int)).toNat = 4 + L := by omega
      have htz2 : (t.extract (4 + L) t.size).size ≤ 4000000 := by rw [ByteArray.size_extract]; omega
      have hrm : (q0.toNat : Int).tmod 128 = (x.kind : Int) := by rw [Int.tmod_eq_emod_of_nonneg (by omega), v0]; split <;> omega
      have u1 : 0 < t.size := by omega
      have u2 : 1 < t.size := by omega
      have u3 : 2 < t.size := by omega
      have u4 : 3 < t.size := by omega
      have HNX := Lib.hid hnx
      have HTZ := Lib.hid htz2
      clear hnx htz2
      clear hA hx z0 z1 z2 z3 hLe b2 d1 v1 htz hLt
      by_cases hl : k + 1 = n
      · have dq : ((k : Int) == (n : Int) - 1) = true := by rw [beq_iff_eq]; omega
        have d8 : decide ((q0.toNat : Int) ≥ 128) = true := by rw [if_pos hl] at v0; simp; omega
        clear v0 hl
        go_wp2
        go_quiet (fail)
        go_wp2
        go_quiet (fail)
        go_wp2
        exact ⟨⟨k + 1, _, rfl, by go_num, by omega, HTZ.out, HNX, bdn hbel _⟩, by simp [intOf]; omega⟩
      · have dq : ((k : Int) == (n : Int) - 1) = false := by rw [beq_eq_false_iff_ne]; omega
        have d8 : decide ((q0.toNat : Int) ≥ 128) = false := by rw [if_neg hl] at v0; simp; omega
        clear v0 hl
        go_wp2
        go_quiet (fail)
        go_wp2
        go_quiet (fail)
        go_wp2
        exact ⟨⟨k + 1, _, rfl, by go_num, by omega, HTZ.out, HNX, bdn hbel _⟩, by simp [intOf]; omega⟩
    · have hkn : k = n := by omega
      have ha := hA.out
      rw [hkn, List.drop_of_length_le (by rw [← HN.out]; exact Nat.le_refl _)] at ha
      have hts : t = snd := ByteArray.ext (Array.toList_inj.1 ha)
      have hE : (t.toList == snd.toList) = true := by rw [hts]; simp
      clear hts ha hA hkn
      have hbz := HBW.out.trans (hbel.mono HBW.out.size)
      have hTz := HTW.out.bel hbel
      have HBZ := Lib.hid hbz
      have HTZ := Lib.hid hTz
      clear hbz hTz
      go_wp2_with (go_at_call 15; with_reducible refine (KA.out _ HTZ.out).mono ?_; rintro e w7 ⟨rfl, hb7⟩; have e5 := kc hb7 e5)
      go_ret
      exact ⟨ret_b (by simp [hE]), HBZ.out.trans (hb7.mono HBZ.out.size)⟩
theorem walk (vm vb : Value) (f : Fl) (w0 : okFl f) (w : World) (R0 : FlRow w vm vb f) (hT : TW w) :
    Calls Tryz.prog 7 #[flV vm vb f] w fun e w' => e = .returned (.bool true) ∧ Below w.heap.size w w' := by
  cases hlt : flightM f with
  | false => exact walk_dark vm vb f w0 w R0 hT hlt
  | true =>
    by_cases hc : (fcheckM f).1 = 0
    · exact walk_good vm vb f w0 w R0 hT hlt hc
    · exact walk_bad vm vb f w0 w R0 hT hlt hc
set_option maxRecDepth 100000 in
theorem lifted (os : Os) (started : os.Started) (H : Type) (enc : TypeId × Value → H) :
    ReturnsInHanded {} Tryz.checked os 7 .any (fun w args => (Rows.flacSizesSpec.pre enc Tryz.prog Tryz.f7 Rows.flacSizesRow.domain false w args ∧ laidMetH Tryz.prog laid3 w) ∧ sizedMet enc Tryz.prog Tryz.f7 (OpenSpec.ofChange Rows.flacSizesSpec) false w args) (Rows.flacSizesSpec.post enc Tryz.prog Tryz.f7 false true false false) := by
  refine handed_laid_shaped (C := Tryz.checked) (X := fun w => laidMetH Tryz.prog laid3 w) (fun _ _ hh h => h.of_heap hh) own started (by kernel_rfl) Tryz.func7
    (ChangeSpec.witness_shaped (enc := enc) (C := Tryz.checked) (os := os) (X := fun w _ => laidMetH Tryz.prog laid3 w) false (World.laidAll Tryz.prog os laid3) #[.agg #[.slice none 0 0, .string ByteArray.empty, .int .i64 0, .slice none 0 0, .int .i64 0, .string ByteArray.empty]] 8 (World.laidAll_os _ _ _) (laid_shaped os _) (by kernel_rfl) (by kernel_rfl) (by kernel_rfl) (laid_met os _)) ?_
  intro W base args ds gs before hval0 hW hL hsh
  have hT := tw_of_laid hL hsh
  have hval : ∀ (j : Nat) t v, Tryz.f7.params[j]? = some t → args[j]? = some v → Value.okWide Tryz.prog W .any base t v := hval0
  have hW' := hW
  obtain ⟨p, q, hA0, hV, rfl, hfz, hnd⟩ := hW
  have hA : DataW.TrodAll enc Tryz.prog W 0 (fun _ => true) true Tryz.f7.params.toList args.toList ds p := hA0
  rw [Tryz.params7] at hA hval
  obtain ⟨v0, vs0, d0, ds0, p0, q0, hargs, rfl, rfl, h0, r0⟩ := trodAll_cons hA
  obtain ⟨rfl, rfl, rfl⟩ := trodAll_nil r0
  obtain rfl : args = #[v0] := by cases args; simp_all
  obtain ⟨rfl, rfl⟩ := trodVars_none hV
  have h0k := h0
  obtain ⟨a0, m0, b0, rfl, R0, w0⟩ := open_file (hval 0 51 v0 rfl rfl) h0
  clear hA0 hval0
  simp only [List.append_nil] at hW'
  refine (walk m0 b0 a0 w0 W R0 hT).mono fun e W' ⟨he, hg⟩ => ?_
  subst he
  have T0 := Below.trod (W' := W') (by kernel_rfl) (by kernel_rfl) (of_decide_eq_true (by kernel_rfl)) h0k hg (fun x hx => by simpa using hW'.lt x (by simp [hx]))
  exact ⟨_, rfl, post_below (pa := _) (pv := []) hW' (trodAll_cons_mk (shut_bool Tryz.underlying4 _) trodAll_mk0) (trodAll_cons_mk T0 trodAll_mk0) rfl hg⟩

theorem over : Rows.flacSizesRow.holds Tryz.pinned (OpenSpec.ofChange Rows.flacSizesSpec) :=
  OpenClaim.holds_of_wide 7 Tryz.f7 rfl rfl rfl rfl rfl rfl rfl ⟨rfl, rfl, rfl, rfl, rfl⟩ rfl rfl rfl rfl rfl k_named Tryz.func7 k_joined (of_decide_eq_true (by kernel_rfl)) k_wrap
    (fun os started H enc _ => lifted os started H enc)

/-- THE STATEMENT: the tied card -/
theorem proved : Rows.FlacSizesCardSaid :=
  Claim7.holds_tied_plain_at .later [] [.data, .data, .pinned] true Rows.flacSizesCard.stood.harness Rows.flacSizesCard.stood.looks over (fun _ h => by cases h) k_wf (fun _ h => by cases h) flacSizes_row_tie rfl ⟨rfl, rfl⟩ k_main rfl
    (fun f fn hf hfn => by
      obtain rfl : f = 7 := Option.some.inj (k_named.symm.trans hf) |>.symm
      obtain rfl : fn = Tryz.f7 := (Option.some.inj (Tryz.func7.symm.trans hfn)).symm
      exact ⟨k_looks, fun j t ht => by
        rw [Tryz.params7] at ht
        have hm : t ∈ [51] := by simpa using Array.mem_of_getElem? ht
        exact (show Tryz.prog.wantsStandIn t = false by simpa using List.all_eq_true.1 k_stand t hm)⟩)
    k_goes
#print axioms proved
end Go.Proofs.YtogknbpmgflpgaaGreatDoor.flacSizes
