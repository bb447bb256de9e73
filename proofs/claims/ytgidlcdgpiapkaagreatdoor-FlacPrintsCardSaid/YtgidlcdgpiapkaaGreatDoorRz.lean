/- Walks: the reference's Check, Print (layer 19). -/
import Derived.Test.YtgidlcdgpiapkaaGreatDoorFe
namespace Go.Proofs.YtgidlcdgpiapkaaGreatDoor
open Go.RowKit
set_option linter.unusedVariables false
set_option linter.unusedSimpArgs false

theorem rsize_any (w : World) : Calls Tryz.prog 114 #[.int .i64 4] w fun e w' => e = .returned (.int .i64 4) ∧ w = w' := by
  go_enter Tryz.func114, Tryz.ntmps114
  go_wp2
  go_ret
  exact ⟨rfl, rfl⟩
set_option maxHeartbeats 2000000 in
theorem rsmall_any (n : Nat) (w : World) (hn : n < 4294967296) : Calls Tryz.prog 113 #[.int .u64 (n : Int), .int .i64 4] w fun e w' => e = .returned (.string (numS n)) ∧ Below w.heap.size w w' := by
  have K1 := Lib.hid rsize_any
  have hcv : ∀ (x : Int) (W : World), 0 ≤ x → (convert 178 9 (.slice (some ⟨W.heap.size, 0, none⟩) 1 1)).run Tryz.prog (W.alloc (.cells #[.int .u8 (x % 256)] 5)) = .ok (.string ⟨#[UInt8.ofNat (x % 256).toNat]⟩) (W.alloc (.cells #[.int .u8 (x % 256)] 5)) := by
    intro x W hx
    have h := conv_own (l := [UInt8.ofNat (x % 256).toNat]) 178 9 Tryz.underlying178 Tryz.underlying5 Tryz.underlying9 (World.ownsRow_lit (size := 1) (base := W.heap.size) W #[.int .u8 ((UInt8.ofNat (x % 256).toNat).toNat : Int)] 1 (Nat.le_refl _) (by unfold maxLen; omega) rfl)
    rw [byte_wrap x hx] at h
    exact h
  have hE : numS n = ⟨(leL n 4).toArray⟩ := by unfold numS; rw [leL_4]
  rw [hE]
  clear hE
  have HCV := Lib.hid hcv
  clear hcv
  go_enter Tryz.func113, Tryz.ntmps113
  go_wp2
  go_loopw [0, 5, 6] (fun q s i wr => ∃ (k : Nat) (x : Int) (T : ByteArray), k ≤ 4 ∧ T.size = k ∧ 0 ≤ x ∧ x ≤ n ∧ q = .int .u64 x ∧ s = .string T ∧ i = .int .i64 (k : Int) ∧ Hid (leL n 4 = bl T ++ leL x (4 - k)) ∧ Below w.heap.size w wr) (fun _ _ i _ => 4 - (intOf i).toNat)
  case atStart => exact ⟨0, n, ⟨#[]⟩, Nat.zero_le _, rfl, by omega, Int.le_refl _, rfl, rfl, rfl, Lib.hid (by simp), Below.refl _ _⟩
  case round =>
    obtain ⟨k, x, T, hk, hpl, hx0, hx1, rfl, rfl, rfl, hbig, hbel⟩ := hrel
    by_cases hlt : k < 4
    · obtain ⟨j, hj⟩ : ∃ j, 4 - k = j + 1 := ⟨4 - k - 1, by omega⟩
      have hb2 := hbig.out
      rw [hj, show leL x (j + 1) = UInt8.ofNat (x % 256).toNat :: leL (x / 256) j from rfl] at hb2
      have hj2 : 4 - (k + 1) = j := by omega
      have hcv := fun W => HCV.out x W hx0
      have hw8 : IntKind.u8.wrap (x % 256) = x % 256 := wraps_u8 _ (by omega) (by omega)
      have hbx := bal hbel (.cells #[.int .u8 (x % 256)] 5)
      have hTs : T.size ≤ 4 := by omega
      have HB2 := Lib.hid hb2
      have HJ2 := Lib.hid hj2
      have HPL := Lib.hid hpl
      have HBX := Lib.hid hbx
      clear hb2 hj2 hpl hbx
      clear hbig hj
      generalize UInt8.ofNat (x % 256).toNat = bb at *
      go_wp2_with (go_at_call 114; refine (K1.out _).mono ?_; rintro e w1 ⟨rfl, rfl⟩)
      exact ⟨⟨k + 1, x / 256, T ++ ⟨#[bb]⟩, by omega, by rw [ByteArray.size_append, HPL.out]; rfl, by omega, by omega, rfl, rfl, by go_num, Lib.hid (by rw [HB2.out, HJ2.out]; show _ = (T ++ ⟨#[bb]⟩).data.toList ++ _; rw [ByteArray.data_append, Array.toList_append]; simp), HBX.out⟩, by simp [intOf]; omega⟩
    · have hk4 : k = 4 := by omega
      have hb2 := hbig.out
      rw [show 4 - k = 0 by omega, show leL x 0 = [] from rfl, List.append_nil] at hb2
      have HB2 := Lib.hid hb2
      clear hb2
      clear hbig hk4
      go_wp2_with (go_at_call 114; refine (K1.out _).mono ?_; rintro e w1 ⟨rfl, rfl⟩)
      go_ret
      exact ⟨ret_s (by rw [HB2.out]), hbel⟩
theorem ba_append (a b : ByteArray) : bl (a ++ b) = bl a ++ bl b := by
  show (a ++ b).data.toList = _
  rw [ByteArray.data_append, Array.toList_append]
/-- bytes behind their number. -/
def sizedB (s : ByteArray) : ByteArray := numS s.size ++ s
theorem numS_size (n : Nat) : (numS n).size = 4 := rfl
theorem rsized_any (s : ByteArray) (w : World) (hn : s.size < 4294967296) : Calls Tryz.prog 112 #[.string s] w fun e w' => e = .returned (.string (sizedB s)) ∧ Below w.heap.size w w' := by
  have k1 := fun w => rsmall_any s.size w hn
  have hw : IntKind.u64.wrap (s.size : Int) = s.size := wrapsu64 _ (by omega) (by omega)
  have h4 : (numS s.size).size = 4 := rfl
  have h5 : sizedB s = numS s.size ++ s := rfl
  rw [h5]
  generalize numS s.size = ns at *
  have K1 := Lib.hid k1
  clear k1
  clear h5
  go_enter Tryz.func112, Tryz.ntmps112
  go_wp2_with (go_at_call 113; refine (K1.out _).mono ?_; rintro e w1 ⟨rfl, hb1⟩)
  go_ret
  exact ⟨rfl, hb1⟩
set_option maxRecDepth 100000 in
set_option maxHeartbeats 4000000 in
theorem rcheck_any (v : Value) (b : Bk) (w : World) (hrow : Row w v b.ns.length (ntcells b.ns)) (hok : smBk b) :
    Calls Tryz.prog 62 #[.agg #[.string ⟨#[]⟩, .string b.vt, .int .i64 b.vs, v]] w fun e w' => e = .returned (.tuple #[.int .i64 (checkM b).1, .int .i64 (checkM b).2]) ∧ Below w.heap.size w w' := by
  obtain ⟨vt, vs, ns⟩ := b
  obtain ⟨av, cap, rfl, hc⟩ := hrow
  obtain ⟨o1, o2, o3⟩ := hok
  simp only at o1 o2 o3 hc ⊢
  have hm : checkM ⟨vt, vs, ns⟩ = if (scanL (bl vt)).2.isSome then (2, 0) else checkL ns 0 := rfl
  rw [hm]
  clear hm
  obtain ⟨n, hn⟩ : ∃ n, n = ns.length := ⟨_, rfl⟩
  rw [← hn] at o2 ⊢
  obtain ⟨W, hW⟩ : ∃ W, W = w.alloc (.cells #[.string ⟨#[]⟩, .string vt, .int .i64 vs, .slice av n cap] 45) := ⟨_, rfl⟩
  have hbW : Below w.heap.size w W := by rw [hW]; exact bal (Below.refl _ _) _
  have l1 : Live W w.heap.size 1 (.string vt) := by rw [hW]; exact Live.fresh _ _ _ 1 _ rfl
  have l3 : Live W w.heap.size 3 (.slice av n cap) := by rw [hW]; exact Live.fresh _ _ _ 3 _ rfl
  have c1 := l1.1
  have kv := fun w => refPoints_any vt w (by omega)
  unfold RPts RPtsS at kv
  have KP : Hid (∀ (s : ByteArray) (w : World), s.size ≤ 1073741824 → Calls Tryz.prog 108 #[.string s] w (RPts (bl s) w)) := fun s w h => refPoints_any s w h
  obtain ⟨C, hC⟩ : ∃ C, C = checkL ns 0 := ⟨_, rfl⟩
  rw [← hC]
  have HC := Lib.hid hc
  have HN := Lib.hid hn
  have O3 := Lib.hid o3
  have HBW := Lib.hid hbW
  have L3 := Lib.hid l3
  have HCC := Lib.hid hC
  clear hc hn o3 hbW l3 hC
  cases hv : (scanL (bl vt)).2 with
  | some k =>
    rw [hv] at kv
    rw [Option.isSome_some, if_pos rfl]
    simp only at kv
    have KV := Lib.hid kv
    clear kv
    clear hv
    go_enter Tryz.func62, Tryz.ntmps62
    go_wp2_with fail
    rw [← hW]
    clear hW
    have hk0 : (k : Int) ≥ 0 := by omega
    go_wp2_with (go_at_call 108; refine (KV.out _).mono ?_; rintro e w1 ⟨rfl, hb1⟩)
    go_ret2
    exact ⟨rfl, HBW.out.trans (hb1.mono HBW.out.size)⟩
  | none =>
    rw [hv] at kv
    rw [Option.isSome_none, if_neg (by decide)]
    simp only at kv
    have KV := Lib.hid kv
    clear kv
    clear hv
    go_enter Tryz.func62, Tryz.ntmps62
    go_wp2_with fail
    rw [← hW]
    clear hW
    go_wp2_with (go_at_call 108; refine (KV.out _).mono ?_; rintro e w1 ⟨⟨v1, rfl, hown1⟩, hb1⟩)
    go_loopw [6] (fun iv wr => ∃ k : Nat, iv = .int .i64 (k : Int) ∧ k ≤ n ∧ Hid (checkL (ns.drop k) k = C) ∧ Below W.heap.size W wr) (fun iv _ => n - (intOf iv).toNat)
    case atStart => exact ⟨0, rfl, Nat.zero_le _, Lib.hid (by rw [List.drop_zero]; exact HCC.out.symm), hb1⟩
    case round =>
      obtain ⟨k, rfl, hk, hA, hbel⟩ := hrel
      clear hb1 hown1
      have c3 := kc hbel L3.out.1
      by_cases hlt : k < n
      · obtain ⟨x, hx⟩ := at_some ns k (by rw [← HN.out]; exact hlt)
        obtain ⟨g, o, rfl, d0, d1, d2⟩ := nt_at HC.out k x hx
        have d0 := kc hbel (kc HBW.out d0)
        have d1 := kc hbel (kc HBW.out d1)
        obtain ⟨b1, b2⟩ := O3.out x (List.mem_of_getElem? hx)
        obtain ⟨hx1, hx2⟩ := List.getElem?_eq_some_iff.1 hx
        have hA2 := hA.out
        rw [List.drop_eq_getElem_cons hx1, hx2, checkL] at hA2
        have kn := fun w => rnamed_any x.name w (by omega)
        have kt := fun w => KP.out x.text w b2
        unfold RPts RPtsS at kt
        have wk : IntKind.i64.wrap ((k : Int) + 1) = (k : Int) + 1 := wi64 _ (by omega) (by omega)
        have m0 : (0 : Int) ≤ (k : Int) := by omega
        have m1 : (k : Int) < (n : Int) := by omega
        have hbf := HBW.out.trans (hbel.mono HBW.out.size)
        have HBF := Lib.hid hbf
        clear hbf
        clear hA hx1 hx2 hx d2
        by_cases c1 : 4096 ≤ k
        · rw [if_pos c1] at hA2
          have c1z : (k : Int) ≥ 4096 := by omega
          have HA2 := Lib.hid hA2
          clear hA2
          go_wp2_with fail
          go_ret2
          refine ⟨?_, HBF.out⟩
          exact (by rw [← HA2.out]; rfl)
        · rw [if_neg c1] at hA2
          have c1z : ¬ (k : Int) ≥ 4096 := by omega
          cases hnm : namedNM (bl x.name) with
          | false =>
            rw [hnm] at kn hA2
            rw [if_pos rfl] at hA2
            have KN := Lib.hid kn
            have HA2 := Lib.hid hA2
            clear kn hA2
            clear hnm kt
            go_wp2_with (go_at_call 109; refine (KN.out _).mono ?_; rintro e w2 ⟨rfl, hb2⟩)
            go_ret2
            refine ⟨?_, bt HBF.out hb2⟩
            exact (by rw [← HA2.out]; rfl)
          | true =>
            rw [hnm] at kn hA2
            rw [if_neg (by decide)] at hA2
            cases hvx : (scanL (bl x.text)).2 with
            | some q =>
              rw [hvx] at kt hA2
              rw [Option.isSome_some, if_pos rfl] at hA2
              simp only at kt
              have hq0 : (q : Int) ≥ 0 := by omega
              have KN := Lib.hid kn
              have KT := Lib.hid kt
              have HA2 := Lib.hid hA2
              clear kn kt hA2
              clear hnm hvx
              go_wp2_with (first
                | (go_at_call 109; refine (KN.out _).mono ?_; rintro e w2 ⟨rfl, hb2⟩; have c3' := kc hb2 c3; have d1' := kc hb2 d1)
                | (go_at_call 108; refine (KT.out _).mono ?_; rintro e w3 ⟨rfl, hb3⟩))
              go_ret2
              refine ⟨?_, bt (bt HBF.out hb2) hb3⟩
              exact (by rw [← HA2.out]; rfl)
            | none =>
              rw [hvx] at kt hA2
              rw [Option.isSome_none, if_neg (by decide)] at hA2
              simp only at kt
              have KN := Lib.hid kn
              have KT := Lib.hid kt
              have HA2 := Lib.hid hA2
              clear kn kt hA2
              clear hnm hvx
              go_wp2_with (first
                | (go_at_call 109; refine (KN.out _).mono ?_; rintro e w2 ⟨rfl, hb2⟩; have c3' := kc hb2 c3; have d1' := kc hb2 d1)
                | (go_at_call 108; refine (KT.out _).mono ?_; rintro e w3 ⟨⟨v3, rfl, hown3⟩, hb3⟩))
              go_roundw
              case rel => exact ⟨k + 1, by go_num, by omega, HA2, bt (bt hbel hb2) hb3⟩
              case measure => simp [intOf]; omega
      · have hkn : k = n := by omega
        have ha := hA.out
        rw [List.drop_of_length_le (by rw [← HN.out]; omega)] at ha
        have hr : C = (0, 0) := by rw [← ha]; rfl
        have hbf := HBW.out.trans (hbel.mono HBW.out.size)
        have HR := Lib.hid hr
        have HBF := Lib.hid hbf
        clear hr hbf
        clear ha hA hkn
        go_wp2_with fail
        go_ret2
        refine ⟨?_, HBF.out⟩
        exact (by rw [HR.out]; rfl)
theorem sizedB_bl (s : ByteArray) : bl (sizedB s) = sizedL (bl s) := by
  unfold sizedB sizedL
  rw [ba_append, bl_length]
  rfl
def noteS (n : Nt) : ByteArray := sizedB (n.name ++ ⟨#[61]⟩ ++ n.text)
theorem noteS_bl (n : Nt) : bl (noteS n) = noteL n := by
  unfold noteS noteL
  rw [sizedB_bl, ba_append, ba_append]
/-- what the reference prints, so far. -/
def printS (vt : ByteArray) (ns : List Nt) : Nat → ByteArray
  | 0 => sizedB vt ++ numS ns.length
  | k + 1 => printS vt ns k ++ (match ns[k]? with | some n => noteS n | none => ⟨#[]⟩)
theorem printS_bl (vt : ByteArray) (ns : List Nt) : ∀ k, k ≤ ns.length → bl (printS vt ns k) = sizedL (bl vt) ++ le4 ns.length ++ (ns.take k).flatMap noteL := by
  intro k
  induction k with
  | zero => intro _; unfold printS; rw [ba_append, sizedB_bl]; simp [numS, bl]
  | succ k ih =>
    intro h
    have hk : ns[k]? = some ns[k] := List.getElem?_eq_getElem (by omega)
    unfold printS
    rw [ba_append, ih (by omega), hk]
    simp only
    rw [noteS_bl, List.take_succ_eq_append_getElem (by omega : k < ns.length), List.flatMap_append]
    simp
set_option maxRecDepth 100000 in
set_option maxHeartbeats 4000000 in
theorem rprint_any (v : Value) (b : Bk) (fr : Bool) (w : World) (hrow : Row w v b.ns.length (ntcells b.ns)) (hok : smBk b) (hnl : b.ns.length ≤ 1000) (hsm : ∀ n ∈ b.ns, n.name.size ≤ 1000 ∧ n.text.size ≤ 1000) (hvt : b.vt.size ≤ 1000) :
    Calls Tryz.prog 64 #[.agg #[.string ⟨#[]⟩, .string b.vt, .int .i64 b.vs, v], .bool fr] w fun e w' => e = .returned (.string ⟨(printL fr b).toArray⟩) ∧ Below w.heap.size w w' := by
  obtain ⟨vt, vs, ns⟩ := b
  obtain ⟨av, cap, rfl, hc⟩ := hrow
  simp only at hc hnl hsm hvt ⊢
  have hpl : (⟨(printL fr ⟨vt, vs, ns⟩).toArray⟩ : ByteArray) = printS vt ns ns.length ++ (if fr = true then ⟨#[1]⟩ else ⟨#[]⟩) := by
    apply ByteArray.ext; apply Array.toList_inj.1
    show printL fr ⟨vt, vs, ns⟩ = bl _
    rw [ba_append, printS_bl vt ns _ (Nat.le_refl _), List.take_length]
    unfold printL
    cases fr <;> rfl
  rw [hpl]
  clear hpl hok
  obtain ⟨n, hn⟩ : ∃ n, n = ns.length := ⟨_, rfl⟩
  rw [← hn] at hnl ⊢
  obtain ⟨W, hW⟩ : ∃ W, W = w.alloc (.cells #[.string ⟨#[]⟩, .string vt, .int .i64 vs, .slice av n cap] 45) := ⟨_, rfl⟩
  have hbW : Below w.heap.size w W := by rw [hW]; exact bal (Below.refl _ _) _
  have l1 : Live W w.heap.size 1 (.string vt) := by rw [hW]; exact Live.fresh _ _ _ 1 _ rfl
  have l3 : Live W w.heap.size 3 (.slice av n cap) := by rw [hW]; exact Live.fresh _ _ _ 3 _ rfl
  have c1 := l1.1
  have c3 := l3.1
  have k1 := fun w => rsized_any vt w (by omega)
  have k2 := fun w => rsmall_any n w (by omega)
  have hwn : IntKind.u64.wrap (n : Int) = n := wrapsu64 _ (by omega) (by omega)
  have hps : ∀ k, k ≤ n → (printS vt ns k).size ≤ 10000 + 3000 * k := by
    intro k
    induction k with
    | zero => intro _; show (sizedB vt ++ numS ns.length).size ≤ _; unfold sizedB; rw [ByteArray.size_append, ByteArray.size_append]; show 4 + vt.size + 4 ≤ _; omega
    | succ k ih =>
      intro h
      have hk : ns[k]? = some ns[k] := List.getElem?_eq_getElem (by omega)
      have hm := hsm ns[k] (List.getElem_mem _)
      unfold printS
      rw [hk, ByteArray.size_append]
      simp only
      have := ih (by omega)
      unfold noteS sizedB
      rw [ByteArray.size_append, ByteArray.size_append, ByteArray.size_append]
      show _ + (4 + (_ + 1 + _)) ≤ _
      omega
  have g1 := fun x : Grown W => x.cell c1
  have g3 := fun x : Grown W => x.cell c3
  have h0 : printS vt ns 0 = sizedB vt ++ numS n := by rw [hn]; rfl
  have hz1 : (sizedB vt).size ≤ 1004 := by unfold sizedB; rw [ByteArray.size_append]; show 4 + vt.size ≤ _; omega
  have hz2 : (numS n).size = 4 := rfl
  generalize sizedB vt = SV at *
  generalize numS n = SN at *
  have HC := Lib.hid hc
  have HN := Lib.hid hn
  have HBW := Lib.hid hbW
  have L3 := Lib.hid l3
  have K1 := Lib.hid k1
  have K2 := Lib.hid k2
  have HPS := Lib.hid hps
  have H0 := Lib.hid h0
  have HSM := Lib.hid hsm
  clear hc hn hbW l3 k1 k2 hps h0 hsm
  go_enter Tryz.func64, Tryz.ntmps64
  go_wp2_with fail
  rw [← hW]
  clear hW
  refine wp_region_grown (by kernel_rfl) (by kernel_rfl) ?_
  repeat (first | go_big_quiet_step ((first | (go_at_call 112; with_reducible exact Calls.grown_of (K1.out _)) | (go_at_call 113; with_reducible exact Calls.grown_of (K2.out _)))) | quiet_step ((first | (go_at_call 112; with_reducible exact Calls.grown_of (K1.out _)) | (go_at_call 113; with_reducible exact Calls.grown_of (K2.out _)))))
  refine wpQuiet_nil ?_
  intro _ hw'
  obtain ⟨xg, rfl⟩ := hw'
  have hbx := xg.bel
  clear g1 g3
  generalize xg.wd = W3 at *
  clear xg
  go_wp2_with fail
  go_loopw [5, 6] (fun sv iv wr => ∃ k : Nat, iv = .int .i64 (k : Int) ∧ k ≤ n ∧ sv = .string (printS vt ns k) ∧ Below W.heap.size W wr) (fun _ iv _ => n - (intOf iv).toNat)
  case atStart => exact ⟨0, rfl, Nat.zero_le _, by rw [H0.out], hbx⟩
  case round =>
    obtain ⟨k, rfl, hk, rfl, hbel⟩ := hrel
    clear hbx
    have c3' := kc hbel L3.out.1
    have hTs := HPS.out k hk
    by_cases hlt : k < n
    · obtain ⟨x, hx⟩ := at_some ns k (by rw [← HN.out]; exact hlt)
      obtain ⟨g, o, rfl, d0, d1, d2⟩ := nt_at HC.out k x hx
      have d0 := kc hbel (kc HBW.out d0)
      have d1 := kc hbel (kc HBW.out d1)
      obtain ⟨b1, b2⟩ := HSM.out x (List.mem_of_getElem? hx)
      have hst : printS vt ns (k + 1) = printS vt ns k ++ noteS x := by rw [printS, hx]
      have k3 : ∀ w, Calls Tryz.prog 112 #[.string (x.name ++ ⟨#[61]⟩ ++ x.text)] w fun e w' => e = .returned (.string (noteS x)) ∧ Below w.heap.size w w' := fun w => rsized_any _ w (by rw [ByteArray.size_append, ByteArray.size_append]; show x.name.size + 1 + x.text.size < _; omega)
      have hNs : (noteS x).size ≤ 3000 := by
        unfold noteS sizedB
        rw [ByteArray.size_append, ByteArray.size_append, ByteArray.size_append]
        show 4 + (_ + 1 + _) ≤ _
        omega
      have g0 := fun y : Grown wr => y.cell d0
      have g1 := fun y : Grown wr => y.cell d1
      have g3 := fun y : Grown wr => y.cell c3'
      have m0 : (0 : Int) ≤ (k : Int) := by omega
      have m1 : (k : Int) < (n : Int) := by omega
      generalize printS vt ns k = T at *
      generalize noteS x = NS at *
      have K3 := Lib.hid k3
      have HST := Lib.hid hst
      clear k3 hst
      clear hx d2
      go_wp2_with fail
      refine wp_region_grown (by kernel_rfl) (by kernel_rfl) ?_
      repeat (first | go_big_quiet_step ((go_at_call 112; exact Calls.grown_of (K3.out _))) | quiet_step ((go_at_call 112; exact Calls.grown_of (K3.out _))))
      refine wpQuiet_nil ?_
      intro _ hw'
      obtain ⟨xg, rfl⟩ := hw'
      have hby := bt hbel xg.bel
      clear g0 g1 g3
      generalize xg.wd = W4 at *
      clear xg
      go_wp2_with fail
      go_roundw
      case rel => exact ⟨k + 1, by go_num, by omega, by rw [HST.out], hby⟩
      case measure => simp [intOf]; omega
    · have hkn : k = n := by omega
      have hbf := HBW.out.trans (hbel.mono HBW.out.size)
      have m1 : ¬ (k : Int) < (n : Int) := by omega
      have hT2 : printS vt ns k = printS vt ns n := by rw [hkn]
      have HBF := Lib.hid hbf
      have HT2 := Lib.hid hT2
      clear hbf hT2
      clear hkn
      cases fr with
      | false =>
        go_wp2_with fail
        go_ret
        refine ⟨ret_s ?_, HBF.out⟩
        rw [HT2.out]
        apply ByteArray.ext; apply Array.toList_inj.1
        show _ = (printS vt ns n ++ ⟨#[]⟩).data.toList
        rw [ByteArray.data_append, Array.toList_append]
        simp
      | true =>
        go_wp2_with fail
        go_ret
        refine ⟨ret_s ?_, HBF.out⟩
        rw [HT2.out]
end Go.Proofs.YtgidlcdgpiapkaaGreatDoor
