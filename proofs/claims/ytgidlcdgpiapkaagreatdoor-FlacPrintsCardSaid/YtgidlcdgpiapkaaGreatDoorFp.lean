/- Walks: the reference's blocks of a file: may one stand, Check, Print (layer 21). -/
import Derived.Test.YtgidlcdgpiapkaaGreatDoorRz
import Derived.Test.YtgidlcdgpiapkaaGreatDoorFl
namespace Go.Proofs.YtgidlcdgpiapkaaGreatDoor
open Go.RowKit
set_option linter.unusedVariables false
set_option linter.unusedSimpArgs false

def beI (n : Int) : Nat → List UInt8
  | 0 => []
  | k + 1 => beI (n / 256) k ++ [UInt8.ofNat (n % 256).toNat]
theorem beI_1 (n : Nat) : beI n 1 = [UInt8.ofNat n] := by
  unfold beI beI
  rw [List.nil_append]
  simp only [List.cons.injEq, and_true]
  apply UInt8.toNat_inj.1; rw [UInt8.toNat_ofNat', UInt8.toNat_ofNat']; omega
theorem beI_3 (n : Nat) : beI n 3 = be3 n := by
  unfold beI beI beI beI be3
  simp only [List.nil_append, List.cons_append, List.cons.injEq, and_true]
  refine ⟨?_, ?_, ?_⟩ <;> (apply UInt8.toNat_inj.1; rw [UInt8.toNat_ofNat', UInt8.toNat_ofNat']; omega)
theorem rsizeK_any (k : Nat) (w : World) (hk : k ≤ 8) : Calls Tryz.prog 114 #[.int .i64 k] w fun e w' => e = .returned (.int .i64 k) ∧ w = w' := by
  have h1 : ¬ (k : Int) < 0 := by omega
  have h2 : ¬ (k : Int) > 8 := by omega
  go_enter Tryz.func114, Tryz.ntmps114
  go_wp2
  go_ret
  exact ⟨rfl, rfl⟩
set_option maxHeartbeats 2000000 in
theorem rbig_any (n k : Nat) (w : World) (hn : n < 4294967296) (hk : k ≤ 8) : Calls Tryz.prog 65 #[.int .u64 (n : Int), .int .i64 k] w fun e w' => e = .returned (.string ⟨(beI n k).toArray⟩) ∧ Below w.heap.size w w' := by
  have k1 := fun w => rsizeK_any k w hk
  have hcv : ∀ (x : Int) (W : World), 0 ≤ x → (convert 178 9 (.slice (some ⟨W.heap.size, 0, none⟩) 1 1)).run Tryz.prog (W.alloc (.cells #[.int .u8 (x % 256)] 5)) = .ok (.string ⟨#[UInt8.ofNat (x % 256).toNat]⟩) (W.alloc (.cells #[.int .u8 (x % 256)] 5)) := by
    intro x W hx
    have h := conv_own (l := [UInt8.ofNat (x % 256).toNat]) 178 9 Tryz.underlying178 Tryz.underlying5 Tryz.underlying9 (World.ownsRow_lit (size := 1) (base := W.heap.size) W #[.int .u8 ((UInt8.ofNat (x % 256).toNat).toNat : Int)] 1 (Nat.le_refl _) (by unfold maxLen; omega) rfl)
    rw [byte_wrap x hx] at h
    exact h
  obtain ⟨E, hE⟩ : ∃ E, E = beI n k := ⟨_, rfl⟩
  rw [← hE]
  have HCV := Lib.hid hcv
  have K1 := Lib.hid k1
  have HE := Lib.hid hE
  clear hcv k1 hE
  go_enter Tryz.func65, Tryz.ntmps65
  go_wp2
  go_loopw [0, 5, 6] (fun q s i wr => ∃ (j : Nat) (x : Int) (T : ByteArray), j ≤ k ∧ T.size = j ∧ 0 ≤ x ∧ x ≤ n ∧ q = .int .u64 x ∧ s = .string T ∧ i = .int .i64 (j : Int) ∧ Hid (beI x (k - j) ++ bl T = E) ∧ Below w.heap.size w wr) (fun _ _ i _ => k - (intOf i).toNat)
  case atStart => exact ⟨0, n, ⟨#[]⟩, Nat.zero_le _, rfl, by omega, Int.le_refl _, rfl, rfl, rfl, Lib.hid (by rw [HE.out]; simp), Below.refl _ _⟩
  case round =>
    obtain ⟨j, x, T, hj, hpl, hx0, hx1, rfl, rfl, rfl, hbig, hbel⟩ := hrel
    by_cases hlt : j < k
    · obtain ⟨i, hi⟩ : ∃ i, k - j = i + 1 := ⟨k - j - 1, by omega⟩
      have hb2 := hbig.out
      rw [hi, show beI x (i + 1) = beI (x / 256) i ++ [UInt8.ofNat (x % 256).toNat] from rfl] at hb2
      have hi2 : k - (j + 1) = i := by omega
      have hcv := fun W => HCV.out x W hx0
      have hw8 : IntKind.u8.wrap (x % 256) = x % 256 := wraps_u8 _ (by omega) (by omega)
      have hbx := bal hbel (.cells #[.int .u8 (x % 256)] 5)
      have hTs : T.size ≤ 8 := by omega
      have HB2 := Lib.hid hb2
      have HI2 := Lib.hid hi2
      have HPL := Lib.hid hpl
      have HBX := Lib.hid hbx
      clear hb2 hi2 hpl hbx
      clear hbig hi
      generalize UInt8.ofNat (x % 256).toNat = bb at *
      go_wp2_with (go_at_call 114; go_loud (refine (K1.out _).mono ?_); go_loud (rintro e w1 ⟨rfl, rfl⟩))
      exact ⟨⟨j + 1, x / 256, ⟨#[bb]⟩ ++ T, by omega, by have := HPL.out; rw [ByteArray.size_append]; show 1 + T.size = _; omega, by omega, by omega, rfl, rfl, by go_num, Lib.hid (by rw [← HB2.out, HI2.out, List.append_assoc]; show _ ++ (⟨#[bb]⟩ ++ T).data.toList = _; rw [ByteArray.data_append, Array.toList_append]), HBX.out⟩, by simp [intOf]; omega⟩
    · have hk4 : j = k := by omega
      have hb2 := hbig.out
      rw [show k - j = 0 by omega, show beI x 0 = [] from rfl, List.nil_append] at hb2
      have HB2 := Lib.hid hb2
      clear hb2
      clear hbig hk4
      go_wp2_with (go_at_call 114; go_loud (refine (K1.out _).mono ?_); go_loud (rintro e w1 ⟨rfl, rfl⟩))
      go_ret
      exact ⟨ret_s (by rw [← HB2.out]), hbel⟩
theorem fault_any (c a : Int) (w : World) : Calls Tryz.prog 13 #[.int .i64 c, .int .i64 a] w fun e w' => e = .returned (.agg #[.int .i64 c, .int .i64 a]) ∧ Below w.heap.size w w' := by
  go_enter Tryz.func13, Tryz.ntmps13
  go_wp2
  have l0 := Live.fresh w #[.int .i64 0, .int .i64 0] 34 0 _ rfl
  have l1 := Live.fresh w #[.int .i64 0, .int .i64 0] 34 1 _ rfl
  obtain ⟨a1, a2⟩ := l0
  obtain ⟨a3, a4⟩ := l1
  refine bodyPost_ret (v := .agg #[.int .i64 c, .int .i64 a]) (by simp [results, Tryz.results13, go_sem, a1, a2, a3, a4]) rfl ?_
  exact ⟨rfl, bal (Below.refl w.heap.size w) _⟩
theorem has4_take (l : List Mt) (k : Nat) (x : Mt) (h : l[k]? = some x) : has4 (l.take (k + 1)) = (has4 (l.take k) || x.kind == 4) := by
  obtain ⟨h1, h2⟩ := List.getElem?_eq_some_iff.1 h
  rw [List.take_succ_eq_append_getElem h1, h2, has4_snoc]
/-- a block that has no notes ahead and is none is looked at alone. -/
theorem stand_other (i : Nat) (m : Mt) (a b : Bool) (h : m.kind ≠ 4) : standM i m a = standM i m b := by
  unfold standM
  simp [h]
set_option maxRecDepth 100000 in
set_option maxHeartbeats 2000000 in
theorem rmay_any (v : Value) (l : List Mt) (m : Mt) (w : World) (hrow : Row w v l.length (rmcells l)) (hl : l.length ≤ 1000000) (hk : m.kind < 256) :
    Calls Tryz.prog 53 #[v, .agg #[.int .i64 m.kind, .string m.body]] w fun e w' => e = .returned (.bool (standM l.length m (has4 l))) ∧ Below w.heap.size w w' := by
  obtain ⟨av, cap, rfl, hc⟩ := hrow
  obtain ⟨kd, t⟩ := m
  obtain ⟨n, hn⟩ : ∃ n, n = l.length := ⟨_, rfl⟩
  rw [← hn] at hl ⊢
  have hbe := bal (Below.refl w.heap.size w) (.cells #[.int .i64 kd, .string t] 120)
  obtain ⟨c0, _⟩ := Live.fresh w #[.int .i64 kd, .string t] 120 0 _ rfl
  obtain ⟨c1, _⟩ := Live.fresh w #[.int .i64 kd, .string t] 120 1 _ rfl
  simp only at hk ⊢
  obtain ⟨R, hR⟩ : ∃ R, R = standM n ⟨kd, t⟩ (has4 l) := ⟨_, rfl⟩
  rw [← hR]
  have HBE := Lib.hid hbe
  have HC := Lib.hid hc
  have HN := Lib.hid hn
  have HR := Lib.hid hR
  clear hbe hc hn hR
  by_cases h0 : n = 0
  · have dn : ((n : Int) == 0) = true := by rw [beq_iff_eq]; omega
    by_cases hk0 : kd = 0
    · have dk : ((kd : Int) == 0) = true := by rw [beq_iff_eq]; omega
      by_cases h2 : t.size = 34
      · have d2 : ((t.size : Int) == 34) = true := by rw [beq_iff_eq]; omega
        have hr : R = true := by rw [HR.out]; unfold standM; simp [h0, hk0, h2]
        rw [hr]
        clear h0 hk0 h2 hr
        go_enter Tryz.func53, Tryz.ntmps53
        go_wp2_with fail
        go_ret
        exact ⟨rfl, HBE.out⟩
      · have d2 : ((t.size : Int) == 34) = false := by rw [beq_eq_false_iff_ne]; omega
        have hr : R = false := by rw [HR.out]; unfold standM; simp [h0, hk0, h2]
        rw [hr]
        clear h0 hk0 h2 hr
        go_enter Tryz.func53, Tryz.ntmps53
        go_wp2_with fail
        go_ret
        exact ⟨rfl, HBE.out⟩
    · have dk : ((kd : Int) == 0) = false := by rw [beq_eq_false_iff_ne]; omega
      have hr : R = false := by rw [HR.out]; unfold standM; simp [h0, hk0]
      rw [hr]
      clear h0 hk0 hr
      go_enter Tryz.func53, Tryz.ntmps53
      go_wp2_with fail
      go_ret
      exact ⟨rfl, HBE.out⟩
  · have dn : ((n : Int) == 0) = false := by rw [beq_eq_false_iff_ne]; omega
    by_cases h4 : kd = 4
    · have d4 : ((kd : Int) == 4) = true := by rw [beq_iff_eq]; omega
      have hr : Hid (R = !(has4 l)) := Lib.hid (by rw [HR.out]; unfold standM; rw [if_neg h0]; cases has4 l <;> simp [h4])
      have d5 : (kd : Int) > 0 := by omega
      have d6 : decide ((kd : Int) < 127) = true := by simp; omega
      clear h0 h4
      obtain ⟨W, hW⟩ : ∃ W, W = w.alloc (.cells #[.int .i64 kd, .string t] 120) := ⟨_, rfl⟩
      have hbe := HBE.out
      rw [← hW] at c0 c1 hbe
      have C0 := Lib.hid c0
      have HBW := Lib.hid hbe
      clear hbe
      go_enter Tryz.func53, Tryz.ntmps53
      go_wp2_with fail
      rw [← hW]
      clear hW HBE
      go_wp2_with fail
      go_loopw [5] (fun i wr => ∃ k : Nat, i = .int .i64 (k : Int) ∧ k ≤ n ∧ Hid (has4 (l.take k) = false) ∧ Below W.heap.size W wr) (fun i _ => n - (intOf i).toNat)
      case atStart => exact ⟨0, rfl, Nat.zero_le _, Lib.hid (by simp [has4]), Below.refl _ _⟩
      case round =>
        obtain ⟨k, rfl, hkn, hA, hbel⟩ := hrel
        clear c0 c1
        have c0 := kc hbel C0.out
        by_cases hlt : k < n
        · obtain ⟨x, hx⟩ := at_some l k (by rw [← HN.out]; exact hlt)
          obtain ⟨g, o, rfl, d0, d1⟩ := rm_at HC.out k x hx
          have d0 := kc hbel (kc HBW.out d0)
          have hs := has4_take l k x hx
          rw [hA.out, Bool.false_or] at hs
          by_cases h4 : x.kind = 4
          · have d4 : ((x.kind : Int) == 4) = true := by rw [beq_iff_eq]; omega
            have hr2 : Hid (R = false) := Lib.hid (by
              rw [hr.out]
              have h5 : has4 l = true := by
                unfold has4
                rw [List.any_eq_true]
                exact ⟨x, List.mem_of_getElem? hx, by simp [h4]⟩
              rw [h5]; rfl)
            clear h4 hs hx hA hr d1
            go_wp2_with fail
            go_ret
            exact ⟨ret_b hr2.out.symm, bt HBW.out hbel⟩
          · have d4 : ((x.kind : Int) == 4) = false := by rw [beq_eq_false_iff_ne]; omega
            have hs2 : Hid (has4 (l.take (k + 1)) = false) := Lib.hid (by rw [hs]; simp [h4])
            clear h4 hs hx hA d1
            go_wp2_with fail
            exact ⟨⟨k + 1, by go_num, by omega, hs2, hbel⟩, by simp [intOf]; omega⟩
        · have hr2 : Hid (R = true) := Lib.hid (by
            have := hA.out
            rw [List.take_of_length_le (by rw [← HN.out]; omega)] at this
            rw [hr.out, this]; rfl)
          clear hA hr
          go_wp2_with fail
          go_ret
          exact ⟨ret_b hr2.out.symm, bt HBW.out hbel⟩
    · have d4 : ((kd : Int) == 4) = false := by rw [beq_eq_false_iff_ne]; omega
      by_cases h5 : 0 < kd
      · have d5 : (kd : Int) > 0 := by omega
        by_cases h6 : kd < 127
        · have d6 : decide ((kd : Int) < 127) = true := by simp; omega
          have hr : R = true := by rw [HR.out]; unfold standM; rw [if_neg h0]; simp; omega
          rw [hr]
          clear h0 h4 h6 hr
          go_enter Tryz.func53, Tryz.ntmps53
          go_wp2_with fail
          go_ret
          exact ⟨ret_b (by simp [d5, d6]), HBE.out⟩
        · have d6 : decide ((kd : Int) < 127) = false := by simp; omega
          have hr : R = false := by rw [HR.out]; unfold standM; rw [if_neg h0]; simp; omega
          rw [hr]
          clear h0 h4 h6 hr
          go_enter Tryz.func53, Tryz.ntmps53
          go_wp2_with fail
          go_ret
          exact ⟨ret_b (by simp [d5, d6]), HBE.out⟩
      · have d5 : ¬ (kd : Int) > 0 := by omega
        have hr : R = false := by rw [HR.out]; unfold standM; rw [if_neg h0]; simp; omega
        rw [hr]
        clear h0 h4 hr
        go_enter Tryz.func53, Tryz.ntmps53
        go_wp2_with fail
        go_ret
        exact ⟨ret_b (by simp [d5]), HBE.out⟩
theorem rm_take {w : World} {am : Option Addr} {cm : Nat} {l : List Mt} (hc : ∀ (j : Nat) (x : Value), (rmcells l)[j]? = some x → ∃ g o, am = some ⟨g, o, none⟩ ∧ w.cell? ⟨g, o + j, none⟩ = some x) (k : Nat) : Row w (.slice am k cm) k (rmcells (l.take k)) := by
  refine ⟨am, cm, rfl, fun j x hj => hc j x ?_⟩
  have : rmcells l = rmcells (l.take k) ++ rmcells (l.drop k) := by rw [← rmcells_append, List.take_append_drop]
  rw [this, List.getElem?_append_left (List.getElem?_eq_some_iff.1 hj).1]
  exact hj
def capOk (v : Value) : Prop := match v with
  | .slice _ n c => n ≤ c
  | _ => True
set_option maxRecDepth 100000 in
set_option maxHeartbeats 40000000 in
theorem rcheck21_any (vm vb : Value) (f : Fl) (w : World) (hrow : RfRow w vm vb f) (hcap : capOk vm) (hok : smFl f) (hkd : ∀ m ∈ f.ms, m.kind < 256) :
    Calls Tryz.prog 18 #[rfV vm vb f] w fun e w' => e = .returned (.tuple #[.int .i64 (fcheckM f).1, .int .i64 (fcheckM f).2]) ∧ Below w.heap.size w w' := by
  have hck : ∀ w', Below w.heap.size w w' → Calls Tryz.prog 62 #[.agg #[.string ⟨#[]⟩, .string f.b.vt, .int .i64 f.b.vs, vb]] w' fun e w'' => e = .returned (.tuple #[.int .i64 (checkM f.b).1, .int .i64 (checkM f.b).2]) ∧ Below w'.heap.size w' w'' := fun w' hb => rcheck_any vb f.b w' (hrow.2.keep hb) hok.1
  obtain ⟨⟨am, cm, rfl, hc⟩, ⟨an, cn, rfl, _⟩⟩ := hrow
  obtain ⟨_, o2, o3, o4, _⟩ := hok
  obtain ⟨C, hC⟩ : ∃ C, C = fcheckM f := ⟨_, rfl⟩
  rw [← hC]
  unfold fcheckM at hC
  obtain ⟨CM, hCM⟩ : ∃ CM, CM = checkM f.b := ⟨_, rfl⟩
  rw [← hCM] at hck
  obtain ⟨xe, xa⟩ := CM
  obtain ⟨G, hG⟩ : ∃ G : List Mt → Nat → Bool → Int × Int, G = fchkL f := ⟨_, rfl⟩
  rw [← hG] at hC
  have G0 : ∀ (i : Nat) (nt : Bool), G [] i nt = if nt = false ∧ (0 ≤ f.at_ ∨ 0 < f.b.ns.length ∨ f.b.vt.size ≠ 0) then (5, (f.ms.length : Int)) else (0, 0) := by
    intro i nt; rw [hG, fchkL]
  have G1 : ∀ (m : Mt) (r : List Mt) (i : Nat) (nt : Bool), G (m :: r) i nt = if 4096 ≤ i then (4, (i : Int)) else if standM i m nt = false then (5, (i : Int)) else if m.kind ≠ 4 then G r (i + 1) nt else
      if m.body.size ≠ 0 ∨ f.at_ ≠ i then (5, (i : Int)) else if xe ≠ 0 then (xe, (i : Int)) else G r (i + 1) true := by
    intro m r i nt; rw [hG, fchkL, ← hCM]
  clear hG hCM
  unfold rfV
  obtain ⟨ms, ⟨vt, vs, ns⟩, at_, snd⟩ := f
  simp only at hck hc hcap hkd o2 o3 o4 hC G0 G1 ⊢
  obtain ⟨n, hn⟩ : ∃ n, n = ms.length := ⟨_, rfl⟩
  obtain ⟨nn, hnn⟩ : ∃ nn, nn = ns.length := ⟨_, rfl⟩
  rw [← hn] at o2 hC hcap ⊢
  simp only [← hn, ← hnn] at G0
  rw [← hnn] at o4 hck ⊢
  have hcap : n ≤ cm := hcap
  obtain ⟨W, hW⟩ : ∃ W, W = w.alloc (.cells #[.slice am n cm, .string ⟨#[]⟩, .string vt, .int .i64 vs, .slice an nn cn, .int .i64 at_, .string snd] 47) := ⟨_, rfl⟩
  have hbW : Below w.heap.size w W := by rw [hW]; exact bal (Below.refl _ _) _
  have lc : ∀ (i : Nat) (u : Value), (#[.slice am n cm, .string ⟨#[]⟩, .string vt, .int .i64 vs, .slice an nn cn, .int .i64 at_, .string snd] : Array Value)[i]? = some u → W.cell? ⟨w.heap.size, i, none⟩ = some u := by
    intro i u hu; rw [hW]; exact (Live.fresh w _ 47 i u hu).1
  have c0 := lc 0 _ rfl
  have c1 := lc 1 _ rfl
  have c2 := lc 2 _ rfl
  have c3 := lc 3 _ rfl
  have c4 := lc 4 _ rfl
  have c5 := lc 5 _ rfl
  have HC := Lib.hid hc
  have HN := Lib.hid hn
  have HNN := Lib.hid hnn
  have O3 := Lib.hid o3
  have HKD := Lib.hid hkd
  have HBW := Lib.hid hbW
  have HCC := Lib.hid hC
  have HG0 := Lib.hid G0
  have HG1 := Lib.hid G1
  have HCK := Lib.hid hck
  have C1 := Lib.hid c1
  have C2 := Lib.hid c2
  have C3 := Lib.hid c3
  have C4 := Lib.hid c4
  have C5 := Lib.hid c5
  clear hc hn hnn o3 hkd hbW hC G0 G1 hck c1 c2 c3 c4 c5
  have C0 := Lib.hid c0
  clear lc
  by_cases hz : n = 0
  · have hzb : ((n : Int) == 0) = true := by rw [beq_iff_eq]; omega
    have hC : Hid (C = (5, 0)) := Lib.hid (by rw [HCC.out, if_pos hz])
    clear hz
    go_enter Tryz.func18, Tryz.ntmps18
    go_wp2_with fail
    rw [← hW]
    clear hW
    go_wp2_with fail
    go_ret2
    exact ⟨by rw [hC.out]; rfl, HBW.out⟩
  · have hzb : ((n : Int) == 0) = false := by rw [beq_eq_false_iff_ne]; omega
    have hC : Hid (G ms 0 false = C) := Lib.hid (by rw [HCC.out, if_neg hz])
    clear hz
    go_enter Tryz.func18, Tryz.ntmps18
    go_wp2_with fail
    rw [← hW]
    clear hW
    go_wp2_with fail
    go_loopw [4, 5] (fun nv iv wr => ∃ (k : Nat) (nt : Bool), iv = .int .i64 (k : Int) ∧ nv = .bool nt ∧ k ≤ n ∧ Hid (nt = has4 (ms.take k)) ∧ Hid (G (ms.drop k) k nt = C) ∧ Below W.heap.size W wr) (fun _ iv _ => n - (intOf iv).toNat)
    case atStart => exact ⟨0, false, rfl, rfl, Nat.zero_le _, Lib.hid (by simp [has4]), Lib.hid (by rw [List.drop_zero]; exact hC.out), Below.refl _ _⟩
    case round =>
      obtain ⟨k, nt, rfl, rfl, hk, hN4, hA, hbel⟩ := hrel
      clear c0 hzb hC
      have c0 := kc hbel C0.out
      by_cases hlt : k < n
      · obtain ⟨x, hx⟩ := at_some ms k (by rw [← HN.out]; exact hlt)
        obtain ⟨g, o, rfl, d0, d1⟩ := rm_at HC.out k x hx
        have d0 := kc hbel (kc HBW.out d0)
        have d1 := kc hbel (kc HBW.out d1)
        have b1 := O3.out x (List.mem_of_getElem? hx)
        obtain ⟨hx1, hx2⟩ := List.getElem?_eq_some_iff.1 hx
        have hA2 := hA.out
        rw [List.drop_eq_getElem_cons hx1, hx2, HG1.out] at hA2
        have kt : ∀ w', Below w.heap.size w w' → Calls Tryz.prog 53 #[.slice (some ⟨g, o, none⟩) k cm, .agg #[.int .i64 x.kind, .string x.body]] w' fun e w'' => e = .returned (.bool (standM k x nt)) ∧ Below w'.heap.size w' w'' := fun w' hb => by
          have := rmay_any (.slice (some ⟨g, o, none⟩) k cm) (ms.take k) x w' (by rw [List.length_take, Nat.min_eq_left (Nat.le_of_lt hx1)]; exact (rm_take HC.out k).keep hb) (by rw [List.length_take]; omega) (HKD.out x (List.mem_of_getElem? hx))
          rw [List.length_take, Nat.min_eq_left (Nat.le_of_lt hx1), ← hN4.out] at this
          exact this
        have hs4 : Hid ((nt || x.kind == 4) = has4 (ms.take (k + 1))) := Lib.hid (by rw [has4_take ms k x hx, ← hN4.out])
        have hbx := HBW.out.trans (hbel.mono HBW.out.size)
        have hcap1 : (k : Int) ≤ (cm : Int) := by omega
        have hcap0 : (0 : Int) ≤ (k : Int) := by omega
        have mx : (k : Int) < (n : Int) := by omega
        obtain ⟨W5, h5w⟩ : ∃ W5, W5 = wr.alloc (.cells #[.int .i64 x.kind, .string x.body] 120) := ⟨_, rfl⟩
        have hba : Below W.heap.size W W5 := by rw [h5w]; exact bal hbel _
        have f0 : W5.cell? ⟨wr.heap.size, 0, none⟩ = some (.int .i64 x.kind) := by rw [h5w]; exact (Live.fresh wr #[.int .i64 x.kind, .string x.body] 120 0 _ rfl).1
        have f1 : W5.cell? ⟨wr.heap.size, 1, none⟩ = some (.string x.body) := by rw [h5w]; exact (Live.fresh wr #[.int .i64 x.kind, .string x.body] 120 1 _ rfl).1
        have hbz := bt HBW.out hba
        have g0 := fun y : Grown W5 => y.cell (kc hba C0.out)
        have g1 := fun y : Grown W5 => y.cell f0
        have g2 := fun y : Grown W5 => y.cell f1
        have g3 := fun y : Grown W5 => y.cell (kc hba C5.out)
        have HBA := Lib.hid hba
        have HBX := Lib.hid hbx
        have HBZ := Lib.hid hbz
        have KT0 := Lib.hid kt
        clear hba hbx hbz kt
        clear hA hx1 hx2 hx
        by_cases c1z : 4096 ≤ k
        · rw [if_pos c1z] at hA2
          have c1y : (k : Int) ≥ 4096 := by omega
          have HA2 := Lib.hid hA2
          clear hA2
          clear c1z g0 g1 g2 g3
          go_wp2_with fail
          rw [← h5w]
          go_ret2
          exact ⟨by rw [← HA2.out]; rfl, HBZ.out⟩
        · rw [if_neg c1z] at hA2
          have c1y : ¬ (k : Int) ≥ 4096 := by omega
          clear c1z
          have kt := fun y : Grown W5 => KT0.out y.wd (bt HBZ.out y.bel)
          cases hst : standM k x nt with
          | false =>
            rw [hst] at hA2
            rw [hst] at kt
            rw [if_pos rfl] at hA2
            have KT := Lib.hid kt
            have HA2 := Lib.hid hA2
            clear kt hA2
            clear hst
            go_wp2_with fail
            rw [← h5w]
            clear h5w
            refine wp_region_grown (by kernel_rfl) (by kernel_rfl) ?_
            repeat (first | go_big_quiet_step ((go_at_call 53; exact Calls.grown_of (KT.out _))) | quiet_step ((go_at_call 53; exact Calls.grown_of (KT.out _))))
            refine wpQuiet_nil ?_
            intro _ hw'
            obtain ⟨xg, rfl⟩ := hw'
            have hbg := bt HBZ.out xg.bel
            go_wp2_with fail
            go_ret2
            exact ⟨by rw [← HA2.out]; rfl, hbg⟩
          | true =>
            rw [hst] at hA2
            rw [hst] at kt
            rw [if_neg (by decide)] at hA2
            by_cases h4 : x.kind = 4
            · rw [if_neg (by simpa using h4)] at hA2
              have d4 : ((x.kind : Int) == 4) = true := by rw [beq_iff_eq]; omega
              have hs5 : Hid (true = has4 (ms.take (k + 1))) := Lib.hid (by rw [← hs4.out]; simp [h4])
              by_cases h5 : x.body.size = 0
              · have he := txt_e h5
                by_cases h6 : at_ = k
                · rw [if_neg (by rw [not_or]; exact ⟨by simpa using h5, by simpa using h6⟩)] at hA2
                  have d6 : (at_ != (k : Int)) = false := by rw [bne_eq_false_iff_eq]; exact h6
                  by_cases h7 : xe = 0
                  · rw [if_neg (by simpa using h7)] at hA2
                    have d7 : (xe != 0) = false := by rw [bne_eq_false_iff_eq]; exact h7
                    have KT := Lib.hid kt
                    have HA2 := Lib.hid hA2
                    clear kt hA2
                    clear hst h4 h5 h6 h7
                    go_wp2_with fail
                    rw [← h5w]
                    clear h5w
                    refine wp_region_grown (by kernel_rfl) (by kernel_rfl) ?_
                    repeat (first | go_big_quiet_step ((go_at_call 53; exact Calls.grown_of (KT.out _))) | quiet_step ((go_at_call 53; exact Calls.grown_of (KT.out _))))
                    refine wpQuiet_nil ?_
                    intro _ hw'
                    obtain ⟨xg, rfl⟩ := hw'
                    have hbg := bt HBZ.out xg.bel
                    have hbq := bt HBA.out xg.bel
                    have f0 := kc xg.bel f0
                    have e1 := kc hbq C1.out
                    have e2 := kc hbq C2.out
                    have e3 := kc hbq C3.out
                    have e4 := kc hbq C4.out
                    clear g0 g1 g2 g3
                    generalize xg.wd = W6 at *
                    clear xg
                    go_wp2_with (go_at_call 62; go_loud (with_reducible refine (HCK.out _ hbg).mono ?_); go_loud (rintro e w3 ⟨rfl, hb3⟩); go_loud (have hbz := bt hbq hb3))
                    go_roundw
                    case rel => exact ⟨k + 1, true, by go_num, rfl, by omega, hs5, HA2, hbz⟩
                    case measure => simp [intOf]; omega
                  · rw [if_pos h7] at hA2
                    have d7 : (xe != 0) = true := by rw [bne_iff_ne]; exact h7
                    have KT := Lib.hid kt
                    have HA2 := Lib.hid hA2
                    clear kt hA2
                    clear hst h4 h5 h6 h7
                    go_wp2_with fail
                    rw [← h5w]
                    clear h5w
                    refine wp_region_grown (by kernel_rfl) (by kernel_rfl) ?_
                    repeat (first | go_big_quiet_step ((go_at_call 53; exact Calls.grown_of (KT.out _))) | quiet_step ((go_at_call 53; exact Calls.grown_of (KT.out _))))
                    refine wpQuiet_nil ?_
                    intro _ hw'
                    obtain ⟨xg, rfl⟩ := hw'
                    have hbg := bt HBZ.out xg.bel
                    have hbq := bt HBA.out xg.bel
                    have f0 := kc xg.bel f0
                    have e1 := kc hbq C1.out
                    have e2 := kc hbq C2.out
                    have e3 := kc hbq C3.out
                    have e4 := kc hbq C4.out
                    clear g0 g1 g2 g3
                    generalize xg.wd = W6 at *
                    clear xg
                    go_wp2_with (go_at_call 62; go_loud (with_reducible refine (HCK.out _ hbg).mono ?_); go_loud (rintro e w3 ⟨rfl, hb3⟩); go_loud (have hbz := bt hbg hb3))
                    go_ret2
                    exact ⟨by rw [← HA2.out]; rfl, hbz⟩
                · rw [if_pos (.inr h6)] at hA2
                  have d6 : (at_ != (k : Int)) = true := by rw [bne_iff_ne]; exact h6
                  have KT := Lib.hid kt
                  have HA2 := Lib.hid hA2
                  clear kt hA2
                  clear hst h4 h5 h6
                  go_wp2_with fail
                  rw [← h5w]
                  clear h5w
                  refine wp_region_grown (by kernel_rfl) (by kernel_rfl) ?_
                  repeat (first | go_big_quiet_step ((go_at_call 53; exact Calls.grown_of (KT.out _))) | quiet_step ((go_at_call 53; exact Calls.grown_of (KT.out _))))
                  refine wpQuiet_nil ?_
                  intro _ hw'
                  obtain ⟨xg, rfl⟩ := hw'
                  have hbg := bt HBZ.out xg.bel
                  go_wp2_with fail
                  go_ret2
                  exact ⟨by rw [← HA2.out]; rfl, hbg⟩
              · have he := txt_ne h5
                rw [if_pos (.inl h5)] at hA2
                have KT := Lib.hid kt
                have HA2 := Lib.hid hA2
                clear kt hA2
                clear hst h4 h5
                go_wp2_with fail
                rw [← h5w]
                clear h5w
                refine wp_region_grown (by kernel_rfl) (by kernel_rfl) ?_
                repeat (first | go_big_quiet_step ((go_at_call 53; exact Calls.grown_of (KT.out _))) | quiet_step ((go_at_call 53; exact Calls.grown_of (KT.out _))))
                refine wpQuiet_nil ?_
                intro _ hw'
                obtain ⟨xg, rfl⟩ := hw'
                have hbg := bt HBZ.out xg.bel
                go_wp2_with fail
                go_ret2
                exact ⟨by rw [← HA2.out]; rfl, hbg⟩
            · rw [if_pos h4] at hA2
              have d4 : ((x.kind : Int) == 4) = false := by rw [beq_eq_false_iff_ne]; omega
              have hs5 : Hid (nt = has4 (ms.take (k + 1))) := Lib.hid (by rw [← hs4.out]; simp [h4])
              have KT := Lib.hid kt
              have HA2 := Lib.hid hA2
              clear kt hA2
              clear hst h4
              go_wp2_with fail
              rw [← h5w]
              clear h5w
              refine wp_region_grown (by kernel_rfl) (by kernel_rfl) ?_
              repeat (first | go_big_quiet_step ((go_at_call 53; exact Calls.grown_of (KT.out _))) | quiet_step ((go_at_call 53; exact Calls.grown_of (KT.out _))))
              refine wpQuiet_nil ?_
              intro _ hw'
              obtain ⟨xg, rfl⟩ := hw'
              have hbq := bt HBA.out xg.bel
              have f0 := kc xg.bel f0
              clear g0 g1 g2 g3
              generalize xg.wd = W6 at *
              clear xg
              go_wp2_with fail
              go_roundw
              case rel => exact ⟨k + 1, nt, by go_num, rfl, by omega, hs5, HA2, hbq⟩
              case measure => simp [intOf]; omega
      · have hkn : k = n := by omega
        subst hkn
        have ha := hA.out
        rw [List.drop_of_length_le (by rw [← HN.out]; exact Nat.le_refl _), HG0.out] at ha
        have e2 := kc hbel C2.out
        have e4 := kc hbel C4.out
        have e5 := kc hbel C5.out
        have hbx := bt HBW.out hbel
        have HBX := Lib.hid hbx
        clear hbx
        clear hA hN4
        cases nt with
        | true =>
          rw [if_neg (by simp)] at ha
          have HA := Lib.hid ha
          clear ha
          go_wp2_with fail
          go_ret2
          exact ⟨by rw [← HA.out]; rfl, HBX.out⟩
        | false =>
          by_cases h1 : 0 ≤ at_
          · rw [if_pos ⟨rfl, .inl h1⟩] at ha
            have h1' : at_ ≥ 0 := h1
            have HA := Lib.hid ha
            clear ha
            clear h1
            go_wp2_with fail
            go_quiet (fail)
            go_wp2_with fail
            go_ret2
            exact ⟨by rw [← HA.out]; rfl, bdn HBX.out _⟩
          · have h1' : ¬ at_ ≥ 0 := h1
            by_cases h2 : 0 < nn
            · rw [if_pos ⟨rfl, .inr (.inl h2)⟩] at ha
              have h2' : (nn : Int) > 0 := by omega
              have HA := Lib.hid ha
              clear ha
              clear h1 h2
              go_wp2_with fail
              go_quiet (fail)
              go_wp2_with fail
              go_ret2
              exact ⟨by rw [← HA.out]; rfl, bdn HBX.out _⟩
            · have h2' : ¬ (nn : Int) > 0 := by omega
              by_cases h3 : vt.size = 0
              · rw [if_neg (by rintro ⟨_, h | h | h⟩; exact h1 h; exact h2 h; exact h h3)] at ha
                have he := txt_e h3
                have HA := Lib.hid ha
                clear ha
                clear h1 h2 h3
                go_wp2_with fail
                go_ret2
                exact ⟨by rw [← HA.out]; rfl, HBX.out⟩
              · rw [if_pos ⟨rfl, .inr (.inr h3)⟩] at ha
                have he := txt_ne h3
                have HA := Lib.hid ha
                clear ha
                clear h1 h2 h3
                go_wp2_with fail
                go_quiet (fail)
                go_wp2_with fail
                go_ret2
                exact ⟨by rw [← HA.out]; rfl, bdn HBX.out _⟩
/-- what the reference prints, so far. -/
def accP (b : Bk) (ms : List Mt) (n : Nat) : Nat → ByteArray
  | 0 => letters
  | k + 1 => accP b ms n k ++ (match ms[k]? with | some m => ⟨(metaL b (decide (k + 1 = n)) m).toArray⟩ | none => ⟨#[]⟩)
theorem accP_bl (b : Bk) (ms : List Mt) (n : Nat) (hn : n = ms.length) : ∀ k, k ≤ n → bl (accP b ms n k) ++ metasL b (ms.drop k) = bl letters ++ metasL b ms := by
  intro k
  induction k with
  | zero => intro _; rfl
  | succ k ih =>
    intro h
    have hk : ms[k]? = some ms[k] := List.getElem?_eq_getElem (by omega)
    rw [← ih (by omega), accP, hk, ba_append]
    simp only
    rw [List.drop_eq_getElem_cons (by omega : k < ms.length), metasL, ends_iff ms k n hn (by omega), List.append_assoc]
set_option maxRecDepth 100000 in
set_option maxHeartbeats 8000000 in
theorem rprint21_any (vm vb : Value) (f : Fl) (w : World) (hrow : RfRow w vm vb f) (hsb : smBk f.b) (hml : f.ms.length ≤ 1000) (hkd : ∀ m ∈ f.ms, m.kind < 128) (hbd : ∀ m ∈ f.ms, (bodyL f.b m).length ≤ 1000000) (hnl : f.b.ns.length ≤ 1000) (hsm : ∀ n ∈ f.b.ns, n.name.size ≤ 1000 ∧ n.text.size ≤ 1000) (hvt : f.b.vt.size ≤ 1000) (hsd : f.sound.size ≤ 1000000) :
    Calls Tryz.prog 20 #[rfV vm vb f] w fun e w' => e = .returned (.string ⟨(fprintL f).toArray⟩) ∧ Below w.heap.size w w' := by
  have hpr : ∀ w', Below w.heap.size w w' → Calls Tryz.prog 64 #[.agg #[.string ⟨#[]⟩, .string f.b.vt, .int .i64 f.b.vs, vb], .bool false] w' fun e w'' => e = .returned (.string ⟨(printL false f.b).toArray⟩) ∧ Below w'.heap.size w' w'' := fun w' hb => rprint_any vb f.b false w' (hrow.2.keep hb) hsb hnl hsm hvt
  obtain ⟨⟨am, cm, rfl, hc⟩, ⟨an, cn, rfl, _⟩⟩ := hrow
  obtain ⟨B, hB⟩ : ∃ B, B = f.b := ⟨_, rfl⟩
  rw [← hB] at hbd
  have hend : (⟨(fprintL f).toArray⟩ : ByteArray) = accP B f.ms f.ms.length f.ms.length ++ f.sound := by
    apply ba_ext
    have := accP_bl B f.ms f.ms.length rfl f.ms.length (Nat.le_refl _)
    rw [List.drop_length, metasL, List.append_nil] at this
    rw [ba_append, this, hB]
    rfl
  rw [hend]
  have hps : ∀ k, k ≤ f.ms.length → (accP B f.ms f.ms.length k).size ≤ 4 + 1000004 * k := by
    intro k
    induction k with
    | zero => intro _; exact Nat.le_refl _
    | succ k ih =>
      intro h
      have hk : f.ms[k]? = some f.ms[k] := List.getElem?_eq_getElem (by omega)
      have h1 := ih (by omega)
      have h2 := hbd f.ms[k] (List.getElem_mem _)
      unfold accP
      rw [hk, ByteArray.size_append]
      simp only
      have h3 : (⟨(metaL B (decide (k + 1 = f.ms.length)) f.ms[k]).toArray⟩ : ByteArray).size = (metaL B (decide (k + 1 = f.ms.length)) f.ms[k]).length := rfl
      rw [h3, metaL_len]
      omega
  have hstep : ∀ (k : Nat) (x : Mt), f.ms[k]? = some x → accP B f.ms f.ms.length (k + 1) = accP B f.ms f.ms.length k ++ ⟨(beI ((x.kind + if k + 1 = f.ms.length then 128 else 0 : Nat) : Int) 1).toArray⟩ ++ ⟨(beI ((bodyL B x).length : Nat) 3).toArray⟩ ++ ⟨(bodyL B x).toArray⟩ := by
    intro k x hx
    apply ba_ext
    rw [accP, hx, ba_append, ba_append, ba_append, ba_append, beI_1, beI_3]
    simp only
    show _ ++ metaL B _ x = _ ++ [_] ++ be3 _ ++ bodyL B x
    unfold metaL
    by_cases h : k + 1 = f.ms.length
    · simp [h]
    · simp [h]
  have hb4 : ∀ x : Mt, x.kind = 4 → bodyL B x = printL false f.b := by intro x h; rw [hB]; unfold bodyL; rw [if_pos h]
  have hbn : ∀ x : Mt, x.kind ≠ 4 → bodyL B x = bl x.body := by intro x h; unfold bodyL; rw [if_neg h]
  have hs4 : ∀ (k : Nat) (x : Mt), f.ms[k]? = some x → x.kind = 4 → accP B f.ms f.ms.length (k + 1) = accP B f.ms f.ms.length k ++ ⟨(beI ((x.kind + if k + 1 = f.ms.length then 128 else 0 : Nat) : Int) 1).toArray⟩ ++ ⟨(beI (((⟨(printL false f.b).toArray⟩ : ByteArray).size : Nat) : Int) 3).toArray⟩ ++ ⟨(printL false f.b).toArray⟩ := by
    intro k x hx h4
    rw [hstep k x hx, hb4 x h4]
    try rfl
  have hsn : ∀ (k : Nat) (x : Mt), f.ms[k]? = some x → x.kind ≠ 4 → accP B f.ms f.ms.length (k + 1) = accP B f.ms f.ms.length k ++ ⟨(beI ((x.kind + if k + 1 = f.ms.length then 128 else 0 : Nat) : Int) 1).toArray⟩ ++ ⟨(beI ((x.body.size : Nat) : Int) 3).toArray⟩ ++ x.body := by
    intro k x hx h4
    rw [hstep k x hx, hbn x h4, bl_length]
  have hz4 : ∀ x ∈ f.ms, x.kind = 4 → (⟨(printL false f.b).toArray⟩ : ByteArray).size ≤ 1000000 := by
    intro x hx h4
    have := hbd x hx
    rw [hb4 x h4] at this
    exact this
  have hzn : ∀ x ∈ f.ms, x.kind ≠ 4 → x.body.size ≤ 1000000 := by
    intro x hx h4
    have := hbd x hx
    rw [hbn x h4, bl_length] at this
    exact this
  have hA0 : accP B f.ms f.ms.length 0 = ⟨#[102, 76, 97, 67]⟩ := rfl
  clear hend hB hstep hb4 hbn hbd hsm hvt hnl hsb
  generalize (⟨(printL false f.b).toArray⟩ : ByteArray) = PT at *
  unfold rfV
  obtain ⟨ms, ⟨vt, vs, ns⟩, at_, snd⟩ := f
  simp only at hpr hc hml hkd hsd hps hs4 hsn hz4 hzn hA0 ⊢
  obtain ⟨n, hn⟩ : ∃ n, n = ms.length := ⟨_, rfl⟩
  obtain ⟨A, hA⟩ : ∃ A, A = accP B ms ms.length := ⟨_, rfl⟩
  rw [← hA] at hps hA0 ⊢
  simp only [← hA] at hs4 hsn
  rw [← hn] at hml hps ⊢
  simp only [← hn] at hs4 hsn
  clear hA
  generalize ns.length = nn at *
  obtain ⟨B1, hB1⟩ : ∃ B1 : Nat → ByteArray, B1 = fun K : Nat => (⟨(beI (K : Int) 1).toArray⟩ : ByteArray) := ⟨_, rfl⟩
  obtain ⟨B3, hB3⟩ : ∃ B3 : Nat → ByteArray, B3 = fun K : Nat => (⟨(beI (K : Int) 3).toArray⟩ : ByteArray) := ⟨_, rfl⟩
  have k1 : ∀ (K : Nat) (w : World), K < 4294967296 → Calls Tryz.prog 65 #[.int .u64 (K : Int), .int .i64 1] w fun e w' => e = .returned (.string (B1 K)) ∧ Below w.heap.size w w' := fun K w h => by rw [hB1]; exact rbig_any K 1 w h (by omega)
  have k3 : ∀ (K : Nat) (w : World), K < 4294967296 → Calls Tryz.prog 65 #[.int .u64 (K : Int), .int .i64 3] w fun e w' => e = .returned (.string (B3 K)) ∧ Below w.heap.size w w' := fun K w h => by rw [hB3]; exact rbig_any K 3 w h (by omega)
  have z1 : ∀ K, (B1 K).size = 1 := fun K => by rw [hB1]; simp only; rw [beI_1]; rfl
  have z3 : ∀ K, (B3 K).size = 3 := fun K => by rw [hB3]; simp only; rw [beI_3]; rfl
  have hs4 : ∀ (k : Nat) (x : Mt), ms[k]? = some x → x.kind = 4 → A (k + 1) = A k ++ B1 (x.kind + if k + 1 = n then 128 else 0) ++ B3 PT.size ++ PT := fun k x hx h => by rw [hs4 k x hx h, hB1, hB3]
  have hsn : ∀ (k : Nat) (x : Mt), ms[k]? = some x → x.kind ≠ 4 → A (k + 1) = A k ++ B1 (x.kind + if k + 1 = n then 128 else 0) ++ B3 x.body.size ++ x.body := fun k x hx h => by rw [hsn k x hx h, hB1, hB3]
  clear hB1 hB3
  obtain ⟨W, hW⟩ : ∃ W, W = w.alloc (.cells #[.slice am n cm, .string ⟨#[]⟩, .string vt, .int .i64 vs, .slice an nn cn, .int .i64 at_, .string snd] 47) := ⟨_, rfl⟩
  have hbW : Below w.heap.size w W := by rw [hW]; exact bal (Below.refl _ _) _
  have lc : ∀ (i : Nat) (u : Value), (#[.slice am n cm, .string ⟨#[]⟩, .string vt, .int .i64 vs, .slice an nn cn, .int .i64 at_, .string snd] : Array Value)[i]? = some u → W.cell? ⟨w.heap.size, i, none⟩ = some u := by
    intro i u hu; rw [hW]; exact (Live.fresh w _ 47 i u hu).1
  have C0 := Lib.hid (lc 0 _ rfl)
  have C1 := Lib.hid (lc 1 _ rfl)
  have C2 := Lib.hid (lc 2 _ rfl)
  have C3 := Lib.hid (lc 3 _ rfl)
  have C4 := Lib.hid (lc 4 _ rfl)
  have C6 := Lib.hid (lc 6 _ rfl)
  clear lc
  have HC := Lib.hid hc
  have HN := Lib.hid hn
  have HKD := Lib.hid hkd
  have HBW := Lib.hid hbW
  have HPR := Lib.hid hpr
  have HPS := Lib.hid hps
  have HS4 := Lib.hid hs4
  have HSN := Lib.hid hsn
  have HZ4 := Lib.hid hz4
  have HZN := Lib.hid hzn
  have HA0 := Lib.hid hA0
  have K1 := Lib.hid k1
  have K3 := Lib.hid k3
  have Z1 := Lib.hid z1
  have Z3 := Lib.hid z3
  clear hc hn hkd hbW hpr hps hs4 hsn hz4 hzn hA0 k1 k3 z1 z3
  go_enter Tryz.func20, Tryz.ntmps20
  go_wp2_with fail
  rw [← hW]
  clear hW
  go_wp2_with fail
  go_loopw [3, 4] (fun sv iv wr => ∃ k : Nat, iv = .int .i64 (k : Int) ∧ k ≤ n ∧ sv = .string (A k) ∧ Below W.heap.size W wr) (fun _ iv _ => n - (intOf iv).toNat)
  case atStart => exact ⟨0, rfl, Nat.zero_le _, by rw [HA0.out], Below.refl _ _⟩
  case round =>
    obtain ⟨k, rfl, hk, rfl, hbel⟩ := hrel
    have c0 := kc hbel C0.out
    have hTs := HPS.out k hk
    by_cases hlt : k < n
    · obtain ⟨x, hx⟩ := at_some ms k (by rw [← HN.out]; exact hlt)
      obtain ⟨g, o, rfl, d0, d1⟩ := rm_at HC.out k x hx
      have d0 := kc hbel (kc HBW.out d0)
      have d1 := kc hbel (kc HBW.out d1)
      have hm := List.mem_of_getElem? hx
      have b1 := HKD.out x hm
      have m0 : (0 : Int) ≤ (k : Int) := by omega
      have m1 : (k : Int) < (n : Int) := by omega
      have hwn : IntKind.i64.wrap ((n : Int) - 1) = (n : Int) - 1 := wi64 _ (by omega) (by omega)
      have hTs2 : (A k).size ≤ 1100000000 := by omega
      clear hTs
      obtain ⟨W5, h5w⟩ : ∃ W5, W5 = wr.alloc (.cells #[.int .i64 x.kind, .string x.body] 120) := ⟨_, rfl⟩
      have hbr : Below wr.heap.size wr W5 := by rw [h5w]; exact bal (Below.refl _ _) _
      have hba := bt hbel hbr
      have l0 : Live W5 wr.heap.size 0 (.int .i64 x.kind) := by rw [h5w]; exact Live.fresh wr #[.int .i64 x.kind, .string x.body] 120 0 _ rfl
      have l1 : Live W5 wr.heap.size 1 (.string x.body) := by rw [h5w]; exact Live.fresh wr #[.int .i64 x.kind, .string x.body] 120 1 _ rfl
      have L0 := Lib.hid l0
      have L1 := Lib.hid l1
      have hstx : (x.kind = 4 → A (k + 1) = A k ++ B1 (x.kind + if k + 1 = n then 128 else 0) ++ B3 PT.size ++ PT) ∧ (x.kind ≠ 4 → A (k + 1) = A k ++ B1 (x.kind + if k + 1 = n then 128 else 0) ++ B3 x.body.size ++ x.body) := ⟨HS4.out k x hx, HSN.out k x hx⟩
      clear l0 l1 hx
      have hne1 : ¬ w.heap.size = wr.heap.size := by have := HBW.out.size; have := cell_lt C0.out; have := hbel.size; omega
      have hne2 : ¬ wr.heap.size = w.heap.size := fun h => hne1 h.symm
      have hge : W.heap.size ≤ wr.heap.size := hbel.size
      have c0w := kc hba C0.out
      obtain ⟨u0, u0'⟩ := L0.out
      obtain ⟨u1, u1'⟩ := L1.out
      subst h5w
      by_cases h4 : x.kind = 4
      · have d4 : ((x.kind : Int) == 4) = true := by rw [beq_iff_eq]; omega
        have hst := hstx.1 h4
        have hz := HZ4.out x hm h4
        have HPR5 : Hid (∀ w', Below (wr.alloc (.cells #[.int .i64 x.kind, .string x.body] 120)).heap.size (wr.alloc (.cells #[.int .i64 x.kind, .string x.body] 120)) w' → Calls Tryz.prog 64 #[.agg #[.string ⟨#[]⟩, .string vt, .int .i64 vs, .slice an nn cn], .bool false] w' fun e w'' => e = .returned (.string PT) ∧ Below w'.heap.size w' w'') := Lib.hid fun w' h => HPR.out w' (bt (bt HBW.out hba) h)
        have e1 := kc hba C1.out
        have e2 := kc hba C2.out
        have e3 := kc hba C3.out
        have e4 := kc hba C4.out
        clear h4 hstx
        by_cases hl : k + 1 = n
        · rw [if_pos hl] at hst
          have dl : ((k : Int) == (n : Int) - 1) = true := by rw [beq_iff_eq]; omega
          have hwk : IntKind.i64.wrap ((x.kind : Int) + 128) = (x.kind : Int) + 128 := wi64 _ (by omega) (by omega)
          have hwu : IntKind.u64.wrap ((x.kind : Int) + 128) = (x.kind : Int) + 128 := wrapsu64 _ (by omega) (by omega)
          have hwz : IntKind.u64.wrap (PT.size : Int) = PT.size := wrapsu64 _ (by omega) (by omega)
          have k1 : ∀ w : World, Calls Tryz.prog 65 #[.int .u64 ((x.kind : Int) + 128), .int .i64 1] w fun e w' => e = .returned (.string (B1 (x.kind + 128))) ∧ Below w.heap.size w w' := fun w => K1.out (x.kind + 128) w (by omega)
          have k3 : ∀ w : World, Calls Tryz.prog 65 #[.int .u64 (PT.size : Int), .int .i64 3] w fun e w' => e = .returned (.string (B3 PT.size)) ∧ Below w.heap.size w w' := fun w => K3.out PT.size w (by omega)
          have y1 : (B1 (x.kind + 128)).size ≤ 1 := Nat.le_of_eq (Z1.out _)
          have y3 : (B3 PT.size).size ≤ 3 := Nat.le_of_eq (Z3.out _)
          generalize B1 (x.kind + 128) = b1 at *
          generalize B3 PT.size = b3 at *
          have HST := Lib.hid hst
          have KB1 := Lib.hid k1
          have KB3 := Lib.hid k3
          clear hst k1 k3
          clear hl hm
          go_wp2_with fail
          go_wp2_with (go_at_call 64; go_loud (with_reducible refine (HPR5.out _ (Below.refl _ _)).mono ?_); go_loud (rintro e w3 ⟨rfl, hb3⟩); go_loud (obtain ⟨q0, q0'⟩ := L0.out.keep hb3); go_loud (obtain ⟨q1, q1'⟩ := L1.out.keep hb3); go_loud (have c3 := kc (bt hba hb3) C0.out))
          have hb8 : Below W.heap.size W ((w3.setCell ⟨wr.heap.size, 1, none⟩ (.string PT)).setCell ⟨wr.heap.size, 0, none⟩ (.int .i64 ((x.kind : Int) + 128))) := (((bt hba hb3).setCell hge _).setCell hge _)
          have e0 : ((w3.setCell ⟨wr.heap.size, 1, none⟩ (.string PT)).setCell ⟨wr.heap.size, 0, none⟩ (.int .i64 ((x.kind : Int) + 128))).cell? ⟨wr.heap.size, 0, none⟩ = some (.int .i64 ((x.kind : Int) + 128)) := by refine World.cell?_setCell_same (u := .int .i64 x.kind) _ _ _ ?_; rw [World.cell?_setCell_other _ _ _ _ (by simp)]; exact q0
          have e1 : ((w3.setCell ⟨wr.heap.size, 1, none⟩ (.string PT)).setCell ⟨wr.heap.size, 0, none⟩ (.int .i64 ((x.kind : Int) + 128))).cell? ⟨wr.heap.size, 1, none⟩ = some (.string PT) := by rw [World.cell?_setCell_other _ _ _ _ (by simp)]; exact World.cell?_setCell_same _ _ _ q1
          obtain ⟨W8, h8⟩ : ∃ W8, W8 = (w3.setCell ⟨wr.heap.size, 1, none⟩ (.string PT)).setCell ⟨wr.heap.size, 0, none⟩ (.int .i64 ((x.kind : Int) + 128)) := ⟨_, rfl⟩
          rw [← h8] at hb8 e0 e1 ⊢
          clear h8
          have g0 := fun y : Grown W8 => y.cell e0
          have g1 := fun y : Grown W8 => y.cell e1
          refine wp_region_grown (by kernel_rfl) (by kernel_rfl) ?_
          repeat (first | go_big_quiet_step ((first | (go_at_call 65; with_reducible exact Calls.grown_of (KB1.out _)) | (go_at_call 65; with_reducible exact Calls.grown_of (KB3.out _)))) | quiet_step ((first | (go_at_call 65; with_reducible exact Calls.grown_of (KB1.out _)) | (go_at_call 65; with_reducible exact Calls.grown_of (KB3.out _)))))
          refine wpQuiet_nil ?_
          intro _ hw'
          obtain ⟨xg, rfl⟩ := hw'
          have hby := bt hb8 xg.bel
          clear g0 g1
          generalize xg.wd = W9 at *
          clear xg
          go_wp2_with fail
          go_roundw
          case rel => exact ⟨k + 1, by go_num, by omega, by rw [HST.out], hby⟩
          case measure => simp [intOf]; omega
        · rw [if_neg hl, Nat.add_zero] at hst
          have dl : ((k : Int) == (n : Int) - 1) = false := by rw [beq_eq_false_iff_ne]; omega
          have hwu : IntKind.u64.wrap ((x.kind : Int)) = (x.kind : Int) := wrapsu64 _ (by omega) (by omega)
          have hwz : IntKind.u64.wrap (PT.size : Int) = PT.size := wrapsu64 _ (by omega) (by omega)
          have k1 : ∀ w : World, Calls Tryz.prog 65 #[.int .u64 ((x.kind : Int)), .int .i64 1] w fun e w' => e = .returned (.string (B1 (x.kind))) ∧ Below w.heap.size w w' := fun w => K1.out (x.kind) w (by omega)
          have k3 : ∀ w : World, Calls Tryz.prog 65 #[.int .u64 (PT.size : Int), .int .i64 3] w fun e w' => e = .returned (.string (B3 PT.size)) ∧ Below w.heap.size w w' := fun w => K3.out PT.size w (by omega)
          have y1 : (B1 (x.kind)).size ≤ 1 := Nat.le_of_eq (Z1.out _)
          have y3 : (B3 PT.size).size ≤ 3 := Nat.le_of_eq (Z3.out _)
          generalize B1 (x.kind) = b1 at *
          generalize B3 PT.size = b3 at *
          have HST := Lib.hid hst
          have KB1 := Lib.hid k1
          have KB3 := Lib.hid k3
          clear hst k1 k3
          clear hl hm
          go_wp2_with fail
          go_wp2_with (go_at_call 64; go_loud (with_reducible refine (HPR5.out _ (Below.refl _ _)).mono ?_); go_loud (rintro e w3 ⟨rfl, hb3⟩); go_loud (obtain ⟨q0, q0'⟩ := L0.out.keep hb3); go_loud (obtain ⟨q1, q1'⟩ := L1.out.keep hb3); go_loud (have c3 := kc (bt hba hb3) C0.out))
          have hb8 : Below W.heap.size W (w3.setCell ⟨wr.heap.size, 1, none⟩ (.string PT)) := ((bt hba hb3).setCell hge _)
          have e0 : (w3.setCell ⟨wr.heap.size, 1, none⟩ (.string PT)).cell? ⟨wr.heap.size, 0, none⟩ = some (.int .i64 ((x.kind : Int))) := by rw [World.cell?_setCell_other _ _ _ _ (by simp)]; exact q0
          have e1 : (w3.setCell ⟨wr.heap.size, 1, none⟩ (.string PT)).cell? ⟨wr.heap.size, 1, none⟩ = some (.string PT) := by exact World.cell?_setCell_same _ _ _ q1
          obtain ⟨W8, h8⟩ : ∃ W8, W8 = w3.setCell ⟨wr.heap.size, 1, none⟩ (.string PT) := ⟨_, rfl⟩
          rw [← h8] at hb8 e0 e1 ⊢
          clear h8
          have g0 := fun y : Grown W8 => y.cell e0
          have g1 := fun y : Grown W8 => y.cell e1
          refine wp_region_grown (by kernel_rfl) (by kernel_rfl) ?_
          repeat (first | go_big_quiet_step ((first | (go_at_call 65; with_reducible exact Calls.grown_of (KB1.out _)) | (go_at_call 65; with_reducible exact Calls.grown_of (KB3.out _)))) | quiet_step ((first | (go_at_call 65; with_reducible exact Calls.grown_of (KB1.out _)) | (go_at_call 65; with_reducible exact Calls.grown_of (KB3.out _)))))
          refine wpQuiet_nil ?_
          intro _ hw'
          obtain ⟨xg, rfl⟩ := hw'
          have hby := bt hb8 xg.bel
          clear g0 g1
          generalize xg.wd = W9 at *
          clear xg
          go_wp2_with fail
          go_roundw
          case rel => exact ⟨k + 1, by go_num, by omega, by rw [HST.out], hby⟩
          case measure => simp [intOf]; omega
      · have d4 : ((x.kind : Int) == 4) = false := by rw [beq_eq_false_iff_ne]; omega
        have hst := hstx.2 h4
        have hz := HZN.out x hm h4
        clear h4 hstx
        by_cases hl : k + 1 = n
        · rw [if_pos hl] at hst
          have dl : ((k : Int) == (n : Int) - 1) = true := by rw [beq_iff_eq]; omega
          have hwk : IntKind.i64.wrap ((x.kind : Int) + 128) = (x.kind : Int) + 128 := wi64 _ (by omega) (by omega)
          have hwu : IntKind.u64.wrap ((x.kind : Int) + 128) = (x.kind : Int) + 128 := wrapsu64 _ (by omega) (by omega)
          have hwz : IntKind.u64.wrap (x.body.size : Int) = x.body.size := wrapsu64 _ (by omega) (by omega)
          have k1 : ∀ w : World, Calls Tryz.prog 65 #[.int .u64 ((x.kind : Int) + 128), .int .i64 1] w fun e w' => e = .returned (.string (B1 (x.kind + 128))) ∧ Below w.heap.size w w' := fun w => K1.out (x.kind + 128) w (by omega)
          have k3 : ∀ w : World, Calls Tryz.prog 65 #[.int .u64 (x.body.size : Int), .int .i64 3] w fun e w' => e = .returned (.string (B3 x.body.size)) ∧ Below w.heap.size w w' := fun w => K3.out x.body.size w (by omega)
          have y1 : (B1 (x.kind + 128)).size ≤ 1 := Nat.le_of_eq (Z1.out _)
          have y3 : (B3 x.body.size).size ≤ 3 := Nat.le_of_eq (Z3.out _)
          generalize B1 (x.kind + 128) = b1 at *
          generalize B3 x.body.size = b3 at *
          have HST := Lib.hid hst
          have KB1 := Lib.hid k1
          have KB3 := Lib.hid k3
          clear hst k1 k3
          clear hl hm
          go_wp2_with fail
          have hb8 : Below W.heap.size W (wr.alloc (.cells #[.int .i64 ((x.kind : Int) + 128), .string x.body] 120)) := bal hbel _
          have e0 : (wr.alloc (.cells #[.int .i64 ((x.kind : Int) + 128), .string x.body] 120)).cell? ⟨wr.heap.size, 0, none⟩ = some (.int .i64 ((x.kind : Int) + 128)) := (Live.fresh wr #[.int .i64 ((x.kind : Int) + 128), .string x.body] 120 0 _ rfl).1
          have e1 : (wr.alloc (.cells #[.int .i64 ((x.kind : Int) + 128), .string x.body] 120)).cell? ⟨wr.heap.size, 1, none⟩ = some (.string x.body) := (Live.fresh wr #[.int .i64 ((x.kind : Int) + 128), .string x.body] 120 1 _ rfl).1
          obtain ⟨W8, h8⟩ : ∃ W8, W8 = wr.alloc (.cells #[.int .i64 ((x.kind : Int) + 128), .string x.body] 120) := ⟨_, rfl⟩
          rw [← h8] at hb8 e0 e1 ⊢
          clear h8
          have g0 := fun y : Grown W8 => y.cell e0
          have g1 := fun y : Grown W8 => y.cell e1
          refine wp_region_grown (by kernel_rfl) (by kernel_rfl) ?_
          repeat (first | go_big_quiet_step ((first | (go_at_call 65; with_reducible exact Calls.grown_of (KB1.out _)) | (go_at_call 65; with_reducible exact Calls.grown_of (KB3.out _)))) | quiet_step ((first | (go_at_call 65; with_reducible exact Calls.grown_of (KB1.out _)) | (go_at_call 65; with_reducible exact Calls.grown_of (KB3.out _)))))
          refine wpQuiet_nil ?_
          intro _ hw'
          obtain ⟨xg, rfl⟩ := hw'
          have hby := bt hb8 xg.bel
          clear g0 g1
          generalize xg.wd = W9 at *
          clear xg
          go_wp2_with fail
          go_roundw
          case rel => exact ⟨k + 1, by go_num, by omega, by rw [HST.out], hby⟩
          case measure => simp [intOf]; omega
        · rw [if_neg hl, Nat.add_zero] at hst
          have dl : ((k : Int) == (n : Int) - 1) = false := by rw [beq_eq_false_iff_ne]; omega
          have hwu : IntKind.u64.wrap ((x.kind : Int)) = (x.kind : Int) := wrapsu64 _ (by omega) (by omega)
          have hwz : IntKind.u64.wrap (x.body.size : Int) = x.body.size := wrapsu64 _ (by omega) (by omega)
          have k1 : ∀ w : World, Calls Tryz.prog 65 #[.int .u64 ((x.kind : Int)), .int .i64 1] w fun e w' => e = .returned (.string (B1 (x.kind))) ∧ Below w.heap.size w w' := fun w => K1.out (x.kind) w (by omega)
          have k3 : ∀ w : World, Calls Tryz.prog 65 #[.int .u64 (x.body.size : Int), .int .i64 3] w fun e w' => e = .returned (.string (B3 x.body.size)) ∧ Below w.heap.size w w' := fun w => K3.out x.body.size w (by omega)
          have y1 : (B1 (x.kind)).size ≤ 1 := Nat.le_of_eq (Z1.out _)
          have y3 : (B3 x.body.size).size ≤ 3 := Nat.le_of_eq (Z3.out _)
          generalize B1 (x.kind) = b1 at *
          generalize B3 x.body.size = b3 at *
          have HST := Lib.hid hst
          have KB1 := Lib.hid k1
          have KB3 := Lib.hid k3
          clear hst k1 k3
          clear hl hm
          go_wp2_with fail
          have hb8 := hba
          have e0 := L0.out.1
          have e1 := L1.out.1
          obtain ⟨W8, h8⟩ : ∃ W8, W8 = wr.alloc (.cells #[.int .i64 x.kind, .string x.body] 120) := ⟨_, rfl⟩
          rw [← h8] at hb8 e0 e1 ⊢
          clear h8
          have g0 := fun y : Grown W8 => y.cell e0
          have g1 := fun y : Grown W8 => y.cell e1
          refine wp_region_grown (by kernel_rfl) (by kernel_rfl) ?_
          repeat (first | go_big_quiet_step ((first | (go_at_call 65; with_reducible exact Calls.grown_of (KB1.out _)) | (go_at_call 65; with_reducible exact Calls.grown_of (KB3.out _)))) | quiet_step ((first | (go_at_call 65; with_reducible exact Calls.grown_of (KB1.out _)) | (go_at_call 65; with_reducible exact Calls.grown_of (KB3.out _)))))
          refine wpQuiet_nil ?_
          intro _ hw'
          obtain ⟨xg, rfl⟩ := hw'
          have hby := bt hb8 xg.bel
          clear g0 g1
          generalize xg.wd = W9 at *
          clear xg
          go_wp2_with fail
          go_roundw
          case rel => exact ⟨k + 1, by go_num, by omega, by rw [HST.out], hby⟩
          case measure => simp [intOf]; omega
    · have hkn : k = n := by omega
      subst hkn
      have c6 := kc hbel C6.out
      have hTs2 : (A k).size ≤ 1100000000 := by omega
      have hbz := bt HBW.out hbel
      have HBZ := Lib.hid hbz
      clear hbz
      clear hTs
      go_wp2_with fail
      go_ret
      exact ⟨rfl, HBZ.out⟩
end Go.Proofs.YtgidlcdgpiapkaaGreatDoor
