/- Walks: the reference's Encode: bytes of codes, of units, texts of signs, ranks, bytes of signs. -/
import Derived.Test.YtmpndnebjahdjaaGreatDoorTm
import Derived.Test.YtmpndnebjahdjaaGreatDoorTj
import Derived.Test.YtmpndnebjahdjaaGreatDoorTc
import Derived.Test.YtmpndnebjahdjaaGreatDoorTa
namespace Go.Proofs.YtmpndnebjahdjaaGreatDoor
open Go.RowKit
set_option linter.unusedVariables false
set_option linter.unusedSimpArgs false

/-- a fresh row of bytes as a text. -/
theorem conv_fresh (w : World) (l : List UInt8) (hl : l.length ≤ 1000) : (convert 150 9 (.slice (some ⟨w.heap.size, 0, none⟩) l.length l.length)).run Tryz.prog (w.alloc (.cells (bcells l).toArray 5)) = .ok (.string ⟨l.toArray⟩) (w.alloc (.cells (bcells l).toArray 5)) := by
  have hO : Own (w.alloc (.cells (bcells l).toArray 5)) w.heap.size (.slice (some ⟨w.heap.size, 0, none⟩) l.length l.length) l :=
    ⟨by simp [bcells], .inr ⟨w.heap.size, l.length, _, rfl, Nat.le_refl _, heap_alloc_new _ _, Nat.le_refl _, by unfold maxLen; omega, by simp [bcells], by rw [Nat.mul_one, List.toList_toArray, List.take_of_length_le (by simp [bcells])]⟩⟩
  exact conv_Own hO
theorem conv_two (w : World) (x y : UInt8) : (convert 150 9 (.slice (some ⟨w.heap.size, 0, none⟩) 2 2)).run Tryz.prog (w.alloc (.cells #[.int .u8 (x.toNat : Int), .int .u8 (y.toNat : Int)] 5)) = .ok (.string ⟨#[x, y]⟩) (w.alloc (.cells #[.int .u8 (x.toNat : Int), .int .u8 (y.toNat : Int)] 5)) := conv_fresh w [x, y] (by simp)
theorem conv_one (w : World) (x : UInt8) : (convert 150 9 (.slice (some ⟨w.heap.size, 0, none⟩) 1 1)).run Tryz.prog (w.alloc (.cells #[.int .u8 (x.toNat : Int)] 5)) = .ok (.string ⟨#[x]⟩) (w.alloc (.cells #[.int .u8 (x.toNat : Int)] 5)) := conv_fresh w [x] (by simp)
theorem u8_of (z : Int) (h0 : 0 ≤ z) (h1 : z < 256) : ∃ x : UInt8, z = (x.toNat : Int) := ⟨UInt8.ofNat z.toNat, by rw [UInt8.toNat_ofNat']; omega⟩
set_option maxHeartbeats 2000000 in
theorem code9_any (n : Int) (w : World) (h0 : 0 ≤ n) (h1 : n < 65536) : Calls Tryz.prog 114 #[.int .i64 n] w fun e w' => e = .returned (.string ⟨(bigL n 2).toArray⟩) ∧ Below w.heap.size w w' := by
  obtain ⟨x, hx⟩ := u8_of (n / 256) (by omega) (by omega)
  obtain ⟨y, hy⟩ := u8_of (n % 256) (by omega) (by omega)
  have e : bigL n 2 = [x, y] := by
    rw [show n = (x.toNat : Int) * 256 + (y.toNat : Int) from by omega, bigL2]
  rw [e]
  have w0 : IntKind.u8.wrap (n / 256) = (x.toNat : Int) := by rw [IntKind.wrap_u8]; omega
  have w1 : IntKind.u8.wrap (n % 256) = (y.toNat : Int) := by rw [IntKind.wrap_u8]; omega
  have hc := fun w => conv_two w x y
  clear e hx hy
  go_enter Tryz.func114, Tryz.ntmps114
  go_wp2
  go_ret
  exact ⟨rfl, bal (Below.refl _ _) _⟩
theorem code9_none (w : World) : Calls Tryz.prog 114 #[.int .i64 (-1)] w fun e w' => e = .returned (.string ⟨#[]⟩) ∧ Below w.heap.size w w' := by
  go_enter Tryz.func114, Tryz.ntmps114
  go_wp2
  go_ret
  exact ⟨rfl, Below.refl _ _⟩
set_option maxHeartbeats 2000000 in
theorem two3_any (u : Int) (big : Bool) (w : World) (h0 : 0 ≤ u) (h1 : u < 65536) : Calls Tryz.prog 112 #[.int .i32 u, .bool big] w fun e w' => e = .returned (.string ⟨(unitB big u).toArray⟩) ∧ Below w.heap.size w w' := by
  obtain ⟨x, hx⟩ := u8_of (u / 256) (by omega) (by omega)
  obtain ⟨y, hy⟩ := u8_of (u % 256) (by omega) (by omega)
  have eh : UInt8.ofNat (u.toNat / 256) = x := UInt8.toNat_inj.1 (by rw [UInt8.toNat_ofNat']; omega)
  have el : UInt8.ofNat (u.toNat % 256) = y := UInt8.toNat_inj.1 (by rw [UInt8.toNat_ofNat']; omega)
  have w0 : IntKind.u8.wrap (u / 256) = (x.toNat : Int) := by rw [IntKind.wrap_u8]; omega
  have w1 : IntKind.u8.wrap (u % 256) = (y.toNat : Int) := by rw [IntKind.wrap_u8]; omega
  cases big with
  | true =>
    have e : unitB true u = [x, y] := by unfold unitB; rw [if_pos rfl, eh, el]
    rw [e]
    have hc := fun w => conv_two w x y
    clear e hx hy eh el
    go_enter Tryz.func112, Tryz.ntmps112
    go_wp2
    go_ret
    exact ⟨rfl, bal (Below.refl _ _) _⟩
  | false =>
    have e : unitB false u = [y, x] := by unfold unitB; rw [if_neg (by decide), eh, el]
    rw [e]
    have hc := fun w => conv_two w y x
    clear e hx hy eh el
    go_enter Tryz.func112, Tryz.ntmps112
    go_wp2
    go_ret
    exact ⟨rfl, bal (Below.refl _ _) _⟩
set_option maxRecDepth 100000 in
set_option maxHeartbeats 2000000 in
theorem rank7_any (n : Nat) (w : World) (hn : n < 11172) :
    Calls Tryz.prog 171 #[.int .i64 n] w fun e w' => e = .returned (.int .i64 (cntB (fun i => inN i == inN n) n : Nat)) ∧ w = w' := by
  have C1 := Lib.hid (fun n w hn => in_any n w hn)
  have HN := Lib.hid hn
  obtain ⟨R, hR⟩ : ∃ R, R = cntB (fun i => inN i == inN n) n := ⟨_, rfl⟩
  rw [← hR]
  have c2 := fun w => C1.out n w hn
  obtain ⟨within, hw⟩ : ∃ b, b = inN n := ⟨_, rfl⟩
  rw [← hw] at c2 hR
  have hnI : (n : Int) < 11172 := by omega
  have HR := Lib.hid hR
  have C2 := Lib.hid c2
  have HW := Lib.hid hw
  clear hR c2 hw
  clear hn
  go_enter Tryz.func171, Tryz.ntmps171
  go_wp2
  go_loopw [3, 4] (fun kv iv wr => ∃ (i k : Nat), kv = .int .i64 (k : Int) ∧ iv = .int .i64 (i : Int) ∧ (i : Int) ≤ n ∧ (k : Int) ≤ i ∧ Hid (k = cntB (fun i => inN i == within) i) ∧ wr = w) (fun _ iv _ => (n - (intOf iv).toNat))
  case atStart => exact ⟨0, 0, rfl, rfl, by omega, by omega, Lib.hid rfl, rfl⟩
  case round =>
    obtain ⟨i, k, rfl, rfl, hi, hk, hQ, rfl⟩ := hrel
    by_cases hlt : (i : Int) < n
    · have k1 := fun w => C1.out i w (by have := HN.out; omega)
      have hq : cntB (fun i => inN i == within) (i + 1) = cntB (fun i => inN i == within) i + if (inN i == within) = true then 1 else 0 := rfl
      rw [← hQ.out] at hq
      generalize inN i = b at *
      clear hQ
      have c2 := C2.out
      cases b <;> cases within
      all_goals
        have K1 := Lib.hid k1
        have HQ := Lib.hid hq
        have C2' := Lib.hid c2
        clear k1 hq c2
        go_wp2_with (first
          | (go_at_call 172; with_reducible refine (K1.out _).mono ?_; rintro e w1 ⟨rfl, rfl⟩)
          | (go_at_call 172; with_reducible refine (C2'.out _).mono ?_; rintro e w1 ⟨rfl, rfl⟩))
        go_roundw
        case rel => first
          | exact ⟨i + 1, k + 1, by go_num, by go_num, by omega, by omega, Lib.hid (by rw [HQ.out]; rfl), by trivial⟩
          | exact ⟨i + 1, k, rfl, by go_num, by omega, by omega, Lib.hid (by rw [HQ.out]; rfl), by trivial⟩
        case measure => simp [intOf]; omega
    · have hin : i = n := by omega
      subst hin
      clear hlt
      go_wp2
      go_ret
      exact ⟨ret_i (by rw [HR.out, ← hQ.out]), rfl⟩
end Go.Proofs.YtmpndnebjahdjaaGreatDoor
/- Walks: the reference's Encode: texts of signs, one byte a sign, units. -/
namespace Go.Proofs.YtmpndnebjahdjaaGreatDoor
open Go.RowKit
set_option linter.unusedVariables false
set_option linter.unusedSimpArgs false

set_option maxRecDepth 100000 in
set_option maxHeartbeats 4000000 in
theorem text2_any (v : Value) (ps : List Int) (w : World) (hrow : Row w v ps.length (icells ps)) (hs : ∀ p ∈ ps, Scal p) (hl : ps.length ≤ 1000) :
    Calls Tryz.prog 52 #[v] w fun e w' => e = .returned (.string ⟨(encL ps).toArray⟩) ∧ Below w.heap.size w w' := by
  have K1 := Lib.hid (fun p w h => refBytes_any p h w)
  obtain ⟨n, hn⟩ : ∃ n, n = ps.length := ⟨_, rfl⟩
  rw [← hn] at hrow hl
  obtain ⟨a, cap, rfl, hc⟩ := hrow
  obtain ⟨R, hR⟩ : ∃ R : ByteArray, R = ⟨(encL ps).toArray⟩ := ⟨_, rfl⟩
  rw [← hR]
  have HN := Lib.hid hn
  have HC := Lib.hid hc
  have HS := Lib.hid hs
  have HR := Lib.hid hR
  clear hn hc hs hR
  go_enter Tryz.func52, Tryz.ntmps52
  go_wp2
  go_loopw [3, 4] (fun tv iv wr => ∃ (i : Nat) (T : ByteArray), iv = .int .i64 (i : Int) ∧ tv = .string T ∧ i ≤ n ∧ T.size ≤ 4 * i ∧ Hid (bl T = encL (ps.take i)) ∧ Below w.heap.size w wr) (fun _ iv _ => n - (intOf iv).toNat)
  case atStart => exact ⟨0, ⟨#[]⟩, rfl, rfl, Nat.zero_le _, by decide, Lib.hid (by simp [encL]), Below.refl _ _⟩
  case round =>
    obtain ⟨i, T, rfl, rfl, hi, hT, hE, hbel⟩ := hrel
    by_cases hlt : i < n
    · obtain ⟨p, hp⟩ := at_some ps i (by rw [← HN.out]; exact hlt)
      obtain ⟨g, o, rfl, hcell⟩ := HC.out i (.int .i32 p) (by simp [icells, hp])
      have hcell := kc hbel hcell
      have k1 := fun w => K1.out p w (HS.out p (List.mem_of_getElem? hp))
      have hpl := encR_len p
      obtain ⟨V, hV⟩ : ∃ V : ByteArray, V = ⟨(encR p).toArray⟩ := ⟨_, rfl⟩
      have hVl : V.size ≤ 4 := by rw [hV]; exact hpl.2
      rw [← hV] at k1
      have e1 : bl (T ++ V) = encL (ps.take (i + 1)) := by
        have e0 : bl (T ++ V) = bl T ++ bl V := by simp [bl]
        rw [e0, hE.out, List.take_add_one, hp, encL_append, hV]
        simp [encL]
      have hTV : (T ++ V).size ≤ 4 * (i + 1) := by
        have e0 : bl (T ++ V) = bl T ++ bl V := by simp [bl]
        rw [← bl_length, e0, List.length_append, bl_length, bl_length]; omega
      have K1' := Lib.hid k1
      have E1 := Lib.hid e1
      have HV := Lib.hid hV
      have HTV := Lib.hid hTV
      clear k1 e1 hV hTV
      clear hp hpl hE
      go_wp2_with (go_at_call 111; refine (K1'.out _).mono ?_; rintro e w1 ⟨rfl, hb1⟩)
      go_roundw
      case rel => exact ⟨i + 1, T ++ V, by go_num, rfl, by omega, HTV.out, E1, bt hbel hb1⟩
      case measure => simp [intOf]; omega
    · have hin : i = n := by omega
      have e1 : T = R := by
        have h := hE.out
        rw [List.take_of_length_le (by rw [← HN.out]; omega)] at h
        rw [HR.out, ← h]
      clear hE hlt
      subst hin
      subst e1
      go_wp2
      go_ret
      exact ⟨rfl, hbel⟩
/-- signs' bytes, one behind the other; the place of the first sign that has none. -/
def encG (g : Int → Option (List UInt8)) : List Int → Nat → List UInt8 → List UInt8 × Option Nat
  | [], _, acc => (acc, none)
  | p :: r, a, acc => match g p with
    | none => ([], some a)
    | some b => encG g r (a + (encR p).length) (acc ++ b)
theorem encG_some {g : Int → Option (List UInt8)} {p : Int} {b : List UInt8} (h : g p = some b) (r : List Int) (a : Nat) (acc : List UInt8) : encG g (p :: r) a acc = encG g r (a + (encR p).length) (acc ++ b) := by rw [encG, h]
theorem encG_none {g : Int → Option (List UInt8)} {p : Int} (h : g p = none) (r : List Int) (a : Nat) (acc : List UInt8) : encG g (p :: r) a acc = ([], some a) := by rw [encG, h]
/-- a reader of one sign at a time, over signs. -/
theorem run_encG {E : Tok} {g : Int → Option (List UInt8)} (h : ∀ p r, Scal p → E (encR p ++ r) = (g p).map fun b => (b, (encR p).length)) : ∀ (ps : List Int), (∀ p ∈ ps, Scal p) → ∀ (f a : Nat) (acc : List UInt8), (encL ps).length ≤ f → runT E f (encL ps) a acc = encG g ps a acc := by
  intro ps
  induction ps with
  | nil => intro _ f a acc _; show runT E f [] a acc = _; rw [runT_nil]; rfl
  | cons p ps ih =>
    intro hs f a acc hf
    rw [encL_cons] at hf ⊢
    have hl := (encR_len p).1
    rw [List.length_append] at hf
    obtain ⟨f, rfl⟩ : ∃ q, f = q + 1 := ⟨f - 1, by omega⟩
    have he := h p (encL ps) (hs p (by simp))
    cases hg : g p with
    | none =>
      rw [hg] at he
      rw [runT_none f _ a acc (encR_ne p _) he, encG_none hg]
    | some b =>
      rw [hg] at he
      rw [runT_some f _ a acc b (encR p).length (encR_ne p _) he, List.drop_left, ih (fun q hq => hs q (by simp [hq])) f _ _ (by omega), encG_some hg]
theorem dec_encG {E : Tok} {g : Int → Option (List UInt8)} (h : ∀ p r, Scal p → E (encR p ++ r) = (g p).map fun b => (b, (encR p).length)) (ps : List Int) (hs : ∀ p ∈ ps, Scal p) : decT E (encL ps) = encG g ps 0 [] := run_encG h ps hs _ 0 [] (Nat.le_refl _)
/-- a byte of a sign in a charset of one byte. -/
theorem pairs_sign : (List.range 4).all (fun (c : Nat) => (fun KG L => L.all fun (q : Int × Int) => decide (¬ q.1 < 256) || (decide (0 ≤ q.1) && decide (KG.2.getD q.1.toNat 0 = q.2))) (kgM (setS (c : Int))) (pairsM (setS (c : Int)))) = true := by decide +kernel
theorem ls_sign (c : Int) (h0 : 0 ≤ c) (h3 : c ≤ 3) (p n : Int) (h : lsK (pairsM (setS c)) p = some n) : ∃ x : UInt8, n = (x.toNat : Int) ∧ bySg (kgM (setS c)) x = p := by
  unfold lsK at h
  rw [Option.map_eq_some_iff] at h
  obtain ⟨q, hq, rfl⟩ := h
  have hm := List.mem_of_find?_eq_some hq
  have hf := List.find?_some hq
  rw [Bool.and_eq_true, decide_eq_true_eq, decide_eq_true_eq] at hf
  obtain ⟨k, rfl⟩ := Int.eq_ofNat_of_zero_le h0
  have hall := pairs_sign
  rw [List.all_eq_true] at hall
  have h1 := hall k (List.mem_range.2 (by omega))
  simp only at h1
  rw [List.all_eq_true] at h1
  have h2 := h1 q hm
  rw [Bool.or_eq_true, Bool.and_eq_true, decide_eq_true_eq, decide_eq_true_eq, decide_eq_true_eq] at h2
  obtain ⟨g0, g1⟩ := h2.resolve_left (by omega)
  obtain ⟨x, hx⟩ := u8_of q.1 g0 (by omega)
  refine ⟨x, hx, ?_⟩
  unfold bySg
  rw [← hf.1, ← g1, hx]
  simp
theorem sign_ls (c : Int) (h0 : 0 ≤ c) (h3 : c ≤ 3) (x : UInt8) : lsK (pairsM (setS c)) (bySg (kgM (setS c)) x) = some (x.toNat : Int) := by
  obtain ⟨n, rfl⟩ := Int.eq_ofNat_of_zero_le h0
  have hall := least_all
  rw [List.all_eq_true] at hall
  have h1 := hall n (List.mem_range.2 (by omega))
  simp only at h1
  rw [List.all_eq_true] at h1
  have h2 := h1 x.toNat (List.mem_range.2 (by have := x.toNat_lt; omega))
  rw [decide_eq_true_eq] at h2
  exact h2
/-- the byte of a sign; -1: it has none. -/
def byteI : Option Int → Int
  | some n => n
  | none => -1
set_option maxRecDepth 100000 in
set_option maxHeartbeats 4000000 in
theorem byte5_any (c p : Int) (w : World) (h0 : 0 ≤ c) (h3 : c ≤ 3) : Calls Tryz.prog 110 #[.int .i64 c, .int .i32 p] w fun e w' => e = .returned (.int .i64 (byteI (lsK (pairsM (setS c)) p))) ∧ Below w.heap.size w w' := by
  have HA := Lib.hid (fun n => ls_sign c h0 h3 p n)
  have HB := Lib.hid (fun x => sign_ls c h0 h3 x)
  have K1 : Hid (∀ (x : UInt8) w, Calls Tryz.prog 166 #[.int .i64 c, .int .u8 (x.toNat : Int)] w fun e w' => e = .returned (.int .i32 (bySg (kgM (setS c)) x)) ∧ Below w.heap.size w w') := Lib.hid (fun x w => by
    have := sign5_any c x w h0 h3
    rw [ref5_eq c h0 h3] at this
    exact this)
  obtain ⟨KG, hKG⟩ : ∃ KG, KG = kgM (setS c) := ⟨_, rfl⟩
  obtain ⟨L, hL⟩ : ∃ L, L = pairsM (setS c) := ⟨_, rfl⟩
  rw [← hKG] at K1 HB HA
  rw [← hL] at HB HA ⊢
  obtain ⟨r, hr⟩ : ∃ r, r = lsK L p := ⟨_, rfl⟩
  rw [← hr]
  have HR := Lib.hid hr
  have HKG := Lib.hid hKG
  have HL := Lib.hid hL
  clear hr hKG hL
  go_enter Tryz.func110, Tryz.ntmps110
  go_wp2
  go_loopw [5] (fun iv wr => ∃ n : Nat, iv = .int .i64 (n : Int) ∧ (n : Int) ≤ 256 ∧ Hid (∀ x : UInt8, x.toNat < n → bySg KG x ≠ p) ∧ Below w.heap.size w wr) (fun iv _ => 256 - (intOf iv).toNat)
  case atStart => exact ⟨0, rfl, by omega, Lib.hid (fun x h => by omega), Below.refl _ _⟩
  case round =>
    obtain ⟨n, rfl, hn, hQ, hbel⟩ := hrel
    by_cases hlt : (n : Int) < 256
    · obtain ⟨x, hx⟩ := u8_of (n : Int) (by omega) hlt
      have hw : IntKind.u8.wrap (n : Int) = (x.toNat : Int) := by rw [IntKind.wrap_u8]; omega
      have k1 := fun w => K1.out x w
      by_cases he : bySg KG x = p
      · have hres : byteI r = (n : Int) := by
          rw [HR.out, ← he, HB.out x]
          show (x.toNat : Int) = n
          omega
        rw [he] at k1
        have K1' := Lib.hid k1
        have HRES := Lib.hid hres
        have HX := Lib.hid hx
        clear k1 hres hx
        clear he hQ
        go_wp2_with (go_at_call 166; refine (K1'.out _).mono ?_; rintro e w1 ⟨rfl, hb1⟩)
        go_ret
        exact ⟨ret_i HRES.out.symm, bt hbel hb1⟩
      · have hq : ∀ y : UInt8, y.toNat < n + 1 → bySg KG y ≠ p := by
          intro y hy
          by_cases hyn : y.toNat < n
          · exact hQ.out y hyn
          · have : y = x := UInt8.toNat_inj.1 (by omega)
            rw [this]; exact he
        generalize bySg KG x = s at *
        have K1' := Lib.hid k1
        have HX := Lib.hid hx
        have HQ := Lib.hid hq
        clear k1 hx hq
        clear hQ
        go_wp2_with (go_at_call 166; refine (K1'.out _).mono ?_; rintro e w1 ⟨rfl, hb1⟩)
        go_roundw
        case rel => exact ⟨n + 1, by go_num, by omega, HQ, bt hbel hb1⟩
        case measure => simp [intOf]; omega
    · have hres : byteI r = -1 := by
        cases hr : r with
        | none => rfl
        | some m =>
          exfalso
          have h := HR.out
          rw [hr] at h
          obtain ⟨x, hx, he⟩ := HA.out m h.symm
          exact hQ.out x (by have := x.toNat_lt; omega) he
      have HRES := Lib.hid hres
      clear hQ hres
      go_wp2
      go_ret
      exact ⟨ret_i HRES.out.symm, hbel⟩
end Go.Proofs.YtmpndnebjahdjaaGreatDoor
