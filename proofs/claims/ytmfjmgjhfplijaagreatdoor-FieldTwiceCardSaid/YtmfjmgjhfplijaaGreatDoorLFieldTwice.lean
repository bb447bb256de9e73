/- FieldTwice holds: what is read and printed is read with the same texts and bytes, and printed as it was. No condition. -/
import Derived.Deep.RegionHeld3
import Derived.Test.YtmfjmgjhfplijaaGreatDoorMFr
import Derived.Test.YtmfjmgjhfplijaaGreatDoorTie
import Derived.Test.YtmfjmgjhfplijaaGreatDoorCards
import Derived.Test.YtmfjmgjhfplijaaGreatDoorMKz
import Derived.Test.YtmfjmgjhfplijaaGreatDoorKFieldTwice
import Derived.Test.YtmfjmgjhfplijaaGreatDoorEf
import Derived.Test.YtmfjmgjhfplijaaGreatDoorEd
import Derived.Deep.CutRange
import Derived.Test.YtmfjmgjhfplijaaGreatDoorEc
import Derived.Test.YtmfjmgjhfplijaaGreatDoorEb
import Derived.Test.YtmfjmgjhfplijaaGreatDoorEa
import Derived.Test.YtmfjmgjhfplijaaGreatDoorMCi
import Derived.Test.YtmfjmgjhfplijaaGreatDoorMSk
import Derived.Test.YtmfjmgjhfplijaaGreatDoorMZA
import Derived.Test.YtmfjmgjhfplijaaGreatDoorMPo
import Derived.Test.YtmfjmgjhfplijaaGreatDoorMOx
import Derived.Test.YtmfjmgjhfplijaaGreatDoorMBj
import Derived.Test.YtmfjmgjhfplijaaGreatDoorMPu
import Derived.Test.YtmfjmgjhfplijaaGreatDoorMCk
import Derived.Test.YtmfjmgjhfplijaaGreatDoorMRx
import Derived.Test.YtmfjmgjhfplijaaGreatDoorMTm
import Derived.Test.YtmfjmgjhfplijaaGreatDoorMCp
import Derived.Test.YtmfjmgjhfplijaaGreatDoorMFb
import Derived.Test.YtmfjmgjhfplijaaGreatDoorMCy
import Derived.Test.YtmfjmgjhfplijaaGreatDoorMTv
import Derived.Test.YtmfjmgjhfplijaaGreatDoorMFy
import Derived.Test.YtmfjmgjhfplijaaGreatDoorMAy
import Derived.Test.YtmfjmgjhfplijaaGreatDoorEe
import Derived.Test.YtmfjmgjhfplijaaGreatDoorMBi
namespace Go.Proofs.YtmfjmgjhfplijaaGreatDoor.fieldTwice
open Go.ChangeShapes Go.WideShapes Go.ChangeAt Go.RowKit Go.ChangeMaps
set_option linter.unusedVariables false
set_option linter.unusedSimpArgs false

theorem pieceL_len2 (e4 : Bool) (c : UInt8) (p : PF) (N : Nat) (h : p.text.size ≤ N) : (pieceL e4 c p).length ≤ if isT c = true then 4 + 4 * N else 4 + N := by
  have hu := unitsT_len (bl p.text)
  have hl := bl_length p.text
  unfold pieceL
  rw [List.length_append]
  have h2 : (if c = 122 then [(0 : UInt8)] else if c = 100 then endB (if e4 = true then 3 else 1) else []).length ≤ 2 := by
    split
    · decide
    · split
      · unfold endB; split <;> decide
      · decide
  by_cases hT : isT c = true
  · rw [if_pos hT]
    have h1 : (if (isT c && !e4) = true then unitsT (bl p.text) else bl p.text).length ≤ 2 + 4 * N := by split <;> omega
    omega
  · rw [if_neg hT, if_neg (by simp [hT])]
    omega
theorem bodyF_len2 (e4 : Bool) (N : Nat) : ∀ (y : List UInt8) (l : List PF), (∀ p ∈ l, p.text.size ≤ N) → (bodyF e4 y l).length ≤ (y.map fun c => if isT c = true then 4 + 4 * N else 4 + N).sum
  | [], [], _ => by simp [bodyF]
  | [], _ :: _, _ => by simp [bodyF]
  | _ :: _, [], _ => by simp [bodyF]
  | c :: r, p :: q, h => by
    have h1 := pieceL_len2 e4 c p N (h p (by simp))
    have ih := bodyF_len2 e4 N r q fun x hx => h x (by simp [hx])
    rw [bodyF, List.length_append, List.map_cons, List.sum_cons]
    omega
theorem fprF_len2 (e4 : Bool) (N : Nat) (y : List UInt8) (l : List PF) (hy : isLay y) (h : ∀ p ∈ l, p.text.size ≤ N) : (fprF e4 y l).length ≤ 17 + 9 * N := by
  unfold fprF
  split
  · match l with
    | [] => simp
    | p :: _ =>
      have := h p (by simp)
      simp only [bl_length]
      omega
  · have := bodyF_len2 e4 N y l h
    rw [List.length_cons]
    have hs : (y.map fun c => if isT c = true then 4 + 4 * N else 4 + N).sum ≤ 16 + 9 * N := by
      rcases hy with rfl | rfl | rfl | rfl | rfl | rfl | rfl <;> simp [isT] <;> omega
    omega
theorem backL_texts (e4 : Bool) (N : Nat) : ∀ (y : List UInt8) (l : List PF), (∀ p ∈ l, p.text.size ≤ N) → ∀ p ∈ backL e4 y l, p.text.size ≤ N
  | [], [], _, p, hp => by simp [backL] at hp
  | [], _ :: _, _, p, hp => by simp [backL] at hp
  | _ :: _, [], _, p, hp => by simp [backL] at hp
  | c :: r, x :: q, h, p, hp => by
    rw [backL, List.mem_cons] at hp
    rcases hp with rfl | hp
    · exact h x (by simp)
    · exact backL_texts e4 N r q (fun z hz => h z (by simp [hz])) p hp
set_option maxRecDepth 100000 in
set_option maxHeartbeats 2000000 in
theorem walk_bad (v : Int) (id body : ByteArray) (fb : Int) (g : Bool) (h1 : id.size ≤ 100) (h2 : body.size ≤ 150) (w : World) (hT : TW w) (hb : (fparF (RM fb g) v (layM v (bl id)) body).2.1 ≠ 0) :
    Calls Tryz.prog 4 #[.int .i64 v, .string id, .string body, .int .i64 fb, .bool g] w fun e w' => e = .returned (.bool true) ∧ Below w.heap.size w w' := by
  have k1 : ∀ w, TW w → Calls Tryz.prog 15 #[.int .i64 v, .string id, .string body, .agg #[.int .i64 0, .int .i64 fb, .bool g, .int .i64 0]] w _ := fun w hT => (fparse_fld v id body 0 fb 0 g w hT (by omega) (by omega)).mono fun e w' h => parse_row h
  have hnil := fparF_bad (RM fb g) v (layM v (bl id)) body hb
  generalize fparF (RM fb g) v (layM v (bl id)) body = D at *
  obtain ⟨L, ec, at_⟩ := D
  simp only at k1 hb hnil
  subst hnil
  have k2 := fun w => bad_any ec at_ w
  have hd : (!decide (ec = 0)) = true := by simpa using hb
  rw [hd] at k2
  have kA := fun w hT => awake14in_any w hT
  have g1 : ¬ (id.size : Int) > 100 := by omega
  have g2 : ¬ (body.size : Int) > 150 := by omega
  have hbo := bal (Below.refl w.heap.size w) (.cells #[.int .i64 0, .int .i64 fb, .bool g, .int .i64 0] 39)
  have hTO := hT.bel hbo
  have K1 := Lib.hid k1
  have K2 := Lib.hid k2
  have KA := Lib.hid kA
  have HTO := Lib.hid hTO
  have HBO := Lib.hid hbo
  clear k1 k2 kA hTO hbo
  clear hd hb
  go_enter Tryz.func4, Tryz.ntmps4
  go_wp2_with (first
    | (go_at_call 15; go_loud (refine (K1.out _ HTO.out).mono ?_); go_loud (rintro e1 w1 ⟨hb1, a, cap, rfl, hrow⟩); go_loud (have hbk := bal (bt HBO.out hb1) (.cells #[.int .i64 ec, .int .i64 at_] 34)))
    | (go_at_call 16; go_loud (refine (K2.out _).mono ?_); go_loud (rintro e2 w2 ⟨rfl, hb2⟩); go_loud (replace hbk := bt hbk hb2))
    | (go_at_call 14; go_loud (refine (KA.out _ (hT.bel hbk)).mono ?_); go_loud (rintro e3 w3 ⟨rfl, hb3⟩); go_loud (replace hbk := bt hbk hb3)))
  go_ret
  exact ⟨rfl, hbk⟩
theorem layM_v (v : Int) (id : List UInt8) (h : layM v id ≠ []) : v = 2 ∨ v = 3 ∨ v = 4 := lay_v v id h
set_option maxRecDepth 100000 in
set_option maxHeartbeats 4000000 in
theorem walk_good (v : Int) (id body : ByteArray) (fb : Int) (g : Bool) (h1 : id.size ≤ 100) (h2 : body.size ≤ 150) (w : World) (hT : TW w) (hb : (fparF (RM fb g) v (layM v (bl id)) body).2.1 = 0) :
    Calls Tryz.prog 4 #[.int .i64 v, .string id, .string body, .int .i64 fb, .bool g] w fun e w' => e = .returned (.bool true) ∧ Below w.heap.size w w' := by
  have hy := layM_is v (bl id)
  have hv := layM_v v (bl id)
  obtain ⟨hg, hts, hz⟩ := fparF_good (RM fb g) v (layM v (bl id)) body hy hb
  have k1 : ∀ w, TW w → Calls Tryz.prog 15 #[.int .i64 v, .string id, .string body, .agg #[.int .i64 0, .int .i64 fb, .bool g, .int .i64 0]] w _ := fun w hT => (fparse_fld v id body 0 fb 0 g w hT (by omega) (by omega)).mono fun e w' h => parse_row h
  generalize hD : fparF (RM fb g) v (layM v (bl id)) body = D at *
  obtain ⟨L, ec, at_⟩ := D
  simp only at k1 hb hg hts hz
  subst hb hz
  have k2 := fun rv w hT hrow => fprint_fld v id L rv w hT hrow hg (fun p hp => by have := hts p hp; omega) (by omega)
  have hlen := fprF_len2 (decide (v = 4)) 76800 (layM v (bl id)) L hy (fun p hp => by have := hts p hp; omega)
  have hback := fparF_back (RM fb g) v (layM v (bl id)) L hy hv hg
  obtain ⟨hg2, hl2, hsame, _⟩ := back_same (decide (v = 4)) (layR (layM v (bl id))) L hg
  have hts2 := backL_texts (decide (v = 4)) 76800 (layR (layM v (bl id))) L (fun p hp => by have := hts p hp; omega)
  have hpr := fpr_back (decide (v = 4)) (layM v (bl id)) L hg
  have k4 := fun rv w hT hrow => fprint_fld v id (backL (decide (v = 4)) (layR (layM v (bl id))) L) rv w hT hrow hg2 (fun p hp => by have := hts2 p hp; omega) (by omega)
  rw [hpr] at k4
  obtain ⟨S, hS⟩ : ∃ S : ByteArray, S = ⟨(fprF (decide (v = 4)) (layM v (bl id)) L).toArray⟩ := ⟨_, rfl⟩
  have hSs : S.size ≤ 1048576 := by rw [hS]; show (fprF (decide (v = 4)) (layM v (bl id)) L).length ≤ _; omega
  rw [← hS] at k2 k4 hback
  have k3 : ∀ w, TW w → Calls Tryz.prog 15 #[.int .i64 v, .string id, .string S, .agg #[.int .i64 0, .int .i64 fb, .bool g, .int .i64 0]] w _ := fun w hT => (fparse_fld v id S 0 fb 0 g w hT (by omega) hSs).mono fun e w' h => parse_row h
  rw [hback] at k3
  have hgl := hg
  have hyl := hy
  clear hD hback hpr hts2 hg2 hlen hS hSs hts hg hy hv
  generalize backL (decide (v = 4)) (layR (layM v (bl id))) L = M at *
  simp only at k3
  obtain ⟨n, hn⟩ : ∃ n, n = L.length := ⟨_, rfl⟩
  rw [hl2] at k3 k4
  have hnL : L.length ≤ 4 := by rw [goodL_len _ _ hgl]; exact (layR_len _ hyl).2
  clear hgl hyl
  rw [← hn] at k1 k2 k3 k4
  have k5 := fun w => bad_any 0 0 w
  have kA := fun w hT => awake14in_any w hT
  have g1 : ¬ (id.size : Int) > 100 := by omega
  have g2 : ¬ (body.size : Int) > 150 := by omega
  obtain ⟨WO, hWO⟩ : ∃ WO, WO = w.alloc (.cells #[.int .i64 0, .int .i64 fb, .bool g, .int .i64 0] 39) := ⟨_, rfl⟩
  have hbo : Below w.heap.size w WO := by rw [hWO]; exact bal (Below.refl _ _) _
  have O : WO.heap[w.heap.size]? = some (.cells #[.int .i64 0, .int .i64 fb, .bool g, .int .i64 0] 39 (0, 0)) := by rw [hWO]; exact heap_alloc_new _ _
  have HTO := Lib.hid (hT.bel hbo)
  have o0 := (live_of O 0 _ rfl).1
  have o1 := (live_of O 1 _ rfl).1
  have o2 := (live_of O 2 _ rfl).1
  have o3 := (live_of O 3 _ rfl).1
  have hbk := Below.refl WO.heap.size WO
  have hSS : (S.toList == S.toList) = true := by simp
  have K1 := Lib.hid k1
  have K2 := Lib.hid k2
  have K3 := Lib.hid k3
  have K4 := Lib.hid k4
  have K5 := Lib.hid k5
  have KA := Lib.hid kA
  have HBO := Lib.hid hbo
  have HN := Lib.hid hn
  have HL2 := Lib.hid hl2
  have HSAME := Lib.hid hsame
  clear k1 k2 k3 k4 k5 kA hbo hn hl2 hsame
  clear hT
  go_enter Tryz.func4, Tryz.ntmps4
  go_wp2_with fail
  rw [← hWO]
  clear hWO
  go_upto_region 7 with (first
    | (go_at_call 15; go_loud (refine (K1.out _ HTO.out).mono ?_); go_loud (rintro e1 w1 ⟨hb1, a, cap, rfl, hrow⟩); go_loud (have hb1a := bal hb1 (.cells #[.int .i64 0, .int .i64 0] 34)); go_loud (replace hbk := bt hbk hb1a); go_loud (have hR1 := hrow.keep (bal (Below.refl _ _) (.cells #[.int .i64 0, .int .i64 0] 34))))
    | (go_at_call 16; go_loud (refine (K5.out _).mono ?_); go_loud (rintro e2 w2 ⟨rfl, hb2⟩); go_loud (replace hbk := bt hbk hb2); go_loud (replace hR1 := hR1.keep hb2); go_loud (have O2 := blkB O hbk); go_loud (have p0 := (live_of O2 0 _ rfl).1); go_loud (have p1 := (live_of O2 1 _ rfl).1); go_loud (have p2 := (live_of O2 2 _ rfl).1); go_loud (have p3 := (live_of O2 3 _ rfl).1)))
  clear o0 o1 o2 o3 hb1a hrow hb1
  go_upto_region 10 with (first
    | (go_at_call_of 17 (Value.slice a n cap); go_loud (refine (K2.out _ _ (HTO.out.bel hbk) hR1).mono ?_); go_loud (rintro e3 w3 ⟨rfl, hb3⟩); go_loud (have hb3a := bal hb3 (.cells #[.int .i64 0, .int .i64 0] 34)); go_loud (replace hbk := bt hbk hb3a); go_loud (replace hR1 := hR1.keep hb3a); go_loud (have A3 := heap_alloc_new w3 (.cells #[.int .i64 0, .int .i64 0] 34)); go_loud (replace p0 := kc hb3a p0); go_loud (replace p1 := kc hb3a p1); go_loud (replace p2 := kc hb3a p2); go_loud (replace p3 := kc hb3a p3))
    | (go_at_call 15; go_loud (refine (K3.out _ (HTO.out.bel hbk)).mono ?_); go_loud (rintro e4 w4 ⟨hb4, a2, cap2, rfl, hrow4⟩); go_loud (have hb4a := bal hb4 (.cells #[.int .i64 0, .int .i64 0] 34)); go_loud (replace hbk := bt hbk hb4a); go_loud (replace hR1 := hR1.keep hb4a); go_loud (have hR2 := hrow4.keep (bal (Below.refl _ _) (.cells #[.int .i64 0, .int .i64 0] 34))); go_loud (have A4 := heap_alloc_new w4 (.cells #[.int .i64 0, .int .i64 0] 34)); go_loud (replace A3 := blkB A3 hb4a))
    | (go_at_call 17; go_loud (refine (K4.out _ _ (HTO.out.bel hbk) hR2).mono ?_); go_loud (rintro e5 w5 ⟨rfl, hb5⟩); go_loud (have hb5a := bal hb5 (.cells #[.int .i64 0, .int .i64 0] 34)); go_loud (replace hbk := bt hbk hb5a); go_loud (replace hR1 := hR1.keep hb5a); go_loud (replace hR2 := hR2.keep hb5a); go_loud (have A5 := heap_alloc_new w5 (.cells #[.int .i64 0, .int .i64 0] 34)); go_loud (replace A3 := blkB A3 hb5a); go_loud (replace A4 := blkB A4 hb5a); go_loud (have a0 := (live_of A3 0 _ rfl).1); go_loud (have a1 := (live_of A3 1 _ rfl).1)))
  clear hb3a hb4a hb5a p0 p1 p2 p3 hrow4 O2
  go_wp2_with (first
    | (go_at_call 16; go_loud (refine (K5.out _).mono ?_); go_loud (rintro e6 w6 ⟨rfl, hb6⟩); go_loud (replace hbk := bt hbk hb6); go_loud (replace hR1 := hR1.keep hb6); go_loud (replace hR2 := hR2.keep hb6); go_loud (replace A4 := blkB A4 hb6); go_loud (replace A5 := blkB A5 hb6); go_loud (have b0 := (live_of A4 0 _ rfl).1); go_loud (have b1 := (live_of A4 1 _ rfl).1); go_loud (have c0 := (live_of A5 0 _ rfl).1); go_loud (have c1 := (live_of A5 1 _ rfl).1)))
  obtain ⟨av, cp, e1, hc1⟩ := hR1
  obtain ⟨rfl, rfl⟩ : a = av ∧ cap = cp := by simpa using e1
  obtain ⟨av2, cp2, e2, hc2⟩ := hR2
  obtain ⟨rfl, rfl⟩ : a2 = av2 ∧ cap2 = cp2 := by simpa using e2
  have hn20 : n < 4611686018427387904 := by have := (HN.out); have := hnL; omega
  have HC1 := Lib.hid hc1
  have HC2 := Lib.hid hc2
  have HBK := Lib.hid hbk
  clear hc1 hc2 hbk
  clear e1 e2 A4 A5 a0 a1 b0 b1 c0 c1 K1 K2 K3 K4 K5 O hnL hSS
  go_loopw [95] (fun iv wr => ∃ k : Nat, iv = .int .i64 (k : Int) ∧ k ≤ n ∧ Below w6.heap.size w6 wr) (fun iv _ => n - (intOf iv).toNat)
  case atStart => exact ⟨0, rfl, Nat.zero_le _, Below.refl _ _⟩
  case round =>
    obtain ⟨k, rfl, hk, hbel⟩ := hrel
    by_cases hlt : k < n
    · obtain ⟨p, hp⟩ := at_some L k (by rw [← HN.out]; exact hlt)
      obtain ⟨sx, hq⟩ := HSAME.out k p hp
      obtain ⟨ga, oa, rfl, d0, d1, d2, d3⟩ := pt_at HC1.out k p hp
      obtain ⟨gb, ob, rfl, e0, e1, e2, e3⟩ := pt_at HC2.out k _ hq
      obtain ⟨nm, raw, t, st⟩ := p
      simp only at d0 d1 d2 d3 e0 e1 e2 e3
      replace d0 := kc hbel d0
      replace d1 := kc hbel d1
      replace d2 := kc hbel d2
      replace e0 := kc hbel e0
      replace e1 := kc hbel e1
      replace e2 := kc hbel e2
      have m0 : (0 : Int) ≤ (k : Int) := by omega
      have m1 : (k : Int) < (n : Int) := by omega
      clear d3 e3 hp hq
      go_wp2_with fail
      go_region_held3 (fun w' => w'.cell? ⟨ga, oa + k * 4, none⟩ = some (.string nm) ∧ w'.cell? ⟨ga, oa + k * 4 + 1, none⟩ = some (.bool raw) ∧ w'.cell? ⟨ga, oa + k * 4 + 2, none⟩ = some (.string t) ∧ w'.cell? ⟨gb, ob + k * 4, none⟩ = some (.string nm) ∧ w'.cell? ⟨gb, ob + k * 4 + 1, none⟩ = some (.bool raw) ∧ w'.cell? ⟨gb, ob + k * 4 + 2, none⟩ = some (.string t)) (go_keep) (fail)
      all_goals
        go_wp2_with fail
        go_roundw
        case rel => exact ⟨k + 1, by go_num, by omega, hbel.drew⟩
        case measure => simp [intOf]; omega
    · have m1 : ¬ (k : Int) < (n : Int) := by omega
      have hTr := HTO.out.bel (bt HBK.out hbel)
      have HTR := Lib.hid hTr
      clear hTr
      go_wp2_with (go_at_call 14; go_loud (refine (KA.out _ HTR.out).mono ?_); go_loud (rintro e9 w9 ⟨rfl, hb9⟩))
      go_ret
      exact ⟨rfl, bt (HBO.out.trans ((bt HBK.out hbel).mono HBO.out.size)) hb9⟩
theorem walk_long (v : Int) (id body : ByteArray) (fb : Int) (g : Bool) (h1 : id.size ≤ maxLen) (h2 : body.size ≤ maxLen) (h : 100 < id.size ∨ 150 < body.size) (w : World) (hT : TW w) :
    Calls Tryz.prog 4 #[.int .i64 v, .string id, .string body, .int .i64 fb, .bool g] w fun e w' => e = .returned (.bool true) ∧ Below w.heap.size w w' := by
  have kA := fun w hT => awake14in_any w hT
  unfold maxLen at h1 h2
  have KA := Lib.hid kA
  have HT := Lib.hid hT
  clear kA hT
  by_cases hi : 100 < id.size
  · have g1 : (id.size : Int) > 100 := by omega
    clear h hi
    go_enter Tryz.func4, Tryz.ntmps4
    go_wp2_with (go_at_call 14; refine (KA.out _ HT.out).mono ?_; rintro e w1 ⟨rfl, hb1⟩)
    go_ret
    exact ⟨rfl, hb1⟩
  · have g1 : ¬ (id.size : Int) > 100 := by omega
    have g2 : (body.size : Int) > 150 := by omega
    clear h hi
    go_enter Tryz.func4, Tryz.ntmps4
    go_wp2_with (go_at_call 14; refine (KA.out _ HT.out).mono ?_; rintro e w1 ⟨rfl, hb1⟩)
    go_ret
    exact ⟨rfl, hb1⟩
theorem walk (v : Int) (id body : ByteArray) (fb : Int) (g : Bool) (w0 : (Lit.int .i64 v).wf = true) (w1 : id.size ≤ maxLen) (w2 : body.size ≤ maxLen) (w3 : (Lit.int .i64 fb).wf = true) (w : World) (hT : TW w) :
    Calls Tryz.prog 4 #[.int .i64 v, .string id, .string body, .int .i64 fb, .bool g] w fun e w' => e = .returned (.bool true) ∧ Below w.heap.size w w' := by
  by_cases h : 100 < id.size ∨ 150 < body.size
  · exact walk_long v id body fb g w1 w2 h w hT
  · by_cases hb : (fparF (RM fb g) v (layM v (bl id)) body).2.1 = 0
    · exact walk_good v id body fb g (by omega) (by omega) w hT hb
    · exact walk_bad v id body fb g (by omega) (by omega) w hT hb
set_option maxRecDepth 100000 in
theorem lifted (os : Os) (started : os.Started) (H : Type) (enc : TypeId × Value → H) :
    ReturnsInHanded {} Tryz.checked os 4 .any (fun w args => (Rows.fieldTwiceSpec.pre enc Tryz.prog Tryz.f4 Rows.fieldTwiceRow.domain false w args ∧ laidMetH Tryz.prog laid3 w) ∧ sizedMet enc Tryz.prog Tryz.f4 (OpenSpec.ofChange Rows.fieldTwiceSpec) false w args) (Rows.fieldTwiceSpec.post enc Tryz.prog Tryz.f4 false true false false) := by
  refine handed_laid_shaped (C := Tryz.checked) (X := fun w => laidMetH Tryz.prog laid3 w) (fun _ _ hh h => h.of_heap hh) own started (by kernel_rfl) Tryz.func4
    (ChangeSpec.witness_shaped (enc := enc) (C := Tryz.checked) (os := os) (X := fun w _ => laidMetH Tryz.prog laid3 w) false (World.laidAll Tryz.prog os laid3) #[.int .i64 0, .string ByteArray.empty, .string ByteArray.empty, .int .i64 0, .bool false] 8 (World.laidAll_os _ _ _) (laid_shaped os _) (by kernel_rfl) (by kernel_rfl) (by kernel_rfl) (laid_met os _)) ?_
  intro W base args ds gs before hval0 hW hL hsh
  have hT := tw_of_laid hL hsh
  have hval : ∀ (j : Nat) t v, Tryz.f4.params[j]? = some t → args[j]? = some v → Value.okWide Tryz.prog W .any base t v := hval0
  have hW' := hW
  obtain ⟨p, q, hA0, hV, rfl, hfz, hnd⟩ := hW
  have hA : DataW.TrodAll enc Tryz.prog W 0 (fun _ => true) true Tryz.f4.params.toList args.toList ds p := hA0
  rw [Tryz.params4] at hA hval
  obtain ⟨v0, vs0, d0, ds0, p0, q0, hargs, rfl, rfl, h0, r0⟩ := trodAll_cons hA
  obtain ⟨v1, vs1, d1, ds1, p1, q1, rfl, rfl, rfl, h1, r1⟩ := trodAll_cons r0
  obtain ⟨v2, vs2, d2, ds2, p2, q2, rfl, rfl, rfl, h2, r2⟩ := trodAll_cons r1
  obtain ⟨v3, vs3, d3, ds3, p3, q3, rfl, rfl, rfl, h3, r3⟩ := trodAll_cons r2
  obtain ⟨v4, vs4, d4, ds4, p4, q4, rfl, rfl, rfl, h4, r4⟩ := trodAll_cons r3
  obtain ⟨rfl, rfl, rfl⟩ := trodAll_nil r4
  obtain rfl : args = #[v0, v1, v2, v3, v4] := by cases args; simp_all
  obtain ⟨rfl, rfl⟩ := trodVars_none hV
  obtain ⟨a0, rfl, rfl, rfl, w0⟩ := open_int Tryz.underlying3 (hval 0 3 v0 rfl rfl) h0
  obtain ⟨a1, rfl, rfl, rfl, w1⟩ := open_string Tryz.underlying9 (hval 1 9 v1 rfl rfl) h1
  obtain ⟨a2, rfl, rfl, rfl, w2⟩ := open_string Tryz.underlying9 (hval 2 9 v2 rfl rfl) h2
  obtain ⟨a3, rfl, rfl, rfl, w3⟩ := open_int Tryz.underlying3 (hval 3 3 v3 rfl rfl) h3
  obtain ⟨a4, rfl, rfl, rfl⟩ := open_bool Tryz.underlying4 (hval 4 4 v4 rfl rfl) h4
  clear hA0 hval0
  simp only [List.append_nil] at hW'
  refine (walk a0 a1 a2 a3 a4 w0 w1 w2 w3 W hT).mono fun e W' ⟨he, hg⟩ => ?_
  subst he
  exact ⟨_, rfl, post_below (pa := []) (pv := []) hW' (trodAll_cons_mk (shut_bool Tryz.underlying4 _) trodAll_mk0) (trodAll_cons_mk (shut_int Tryz.underlying3 w0) (trodAll_cons_mk (shut_string Tryz.underlying9 w1) (trodAll_cons_mk (shut_string Tryz.underlying9 w2) (trodAll_cons_mk (shut_int Tryz.underlying3 w3) (trodAll_cons_mk (shut_bool Tryz.underlying4 a4) trodAll_mk0))))) rfl hg⟩

theorem over : Rows.fieldTwiceRow.holds Tryz.pinned (OpenSpec.ofChange Rows.fieldTwiceSpec) :=
  OpenClaim.holds_of_wide 4 Tryz.f4 rfl rfl rfl rfl rfl rfl rfl ⟨rfl, rfl, rfl, rfl, rfl⟩ rfl rfl rfl rfl rfl k_named Tryz.func4 k_joined (of_decide_eq_true (by kernel_rfl)) k_wrap
    (fun os started H enc _ => lifted os started H enc)

/-- THE STATEMENT: the tied card -/
theorem proved : Rows.FieldTwiceCardSaid :=
  Claim7.holds_tied_plain_at .later [] [.data, .data, .pinned] true Rows.fieldTwiceCard.stood.harness Rows.fieldTwiceCard.stood.looks over (fun _ h => by cases h) k_wf (fun _ h => by cases h) fieldTwice_row_tie rfl ⟨rfl, rfl⟩ k_main rfl
    (fun f fn hf hfn => by
      obtain rfl : f = 4 := Option.some.inj (k_named.symm.trans hf) |>.symm
      obtain rfl : fn = Tryz.f4 := (Option.some.inj (Tryz.func4.symm.trans hfn)).symm
      exact ⟨k_looks, fun j t ht => by
        rw [Tryz.params4] at ht
        have hm : t ∈ [3, 9, 9, 3, 4] := by simpa using Array.mem_of_getElem? ht
        exact (show Tryz.prog.wantsStandIn t = false by simpa using List.all_eq_true.1 k_stand t hm)⟩)
    k_goes
#print axioms proved
end Go.Proofs.YtmfjmgjhfplijaaGreatDoor.fieldTwice

