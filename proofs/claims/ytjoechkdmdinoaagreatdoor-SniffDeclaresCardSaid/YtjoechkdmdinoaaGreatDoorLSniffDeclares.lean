/- Walks: the charset's name that a text tells of itself (cue.Declared, ssa.Declared, lrc.Declared). -/
import Derived.Test.YtjoechkdmdinoaaGreatDoorIL
import Derived.Test.YtjoechkdmdinoaaGreatDoorMMore
import Derived.Test.YtjoechkdmdinoaaGreatDoorHV
import Derived.ChangeMaps5
import Derived.Test.YtjoechkdmdinoaaGreatDoorKSniffDeclares
import Derived.Test.YtjoechkdmdinoaaGreatDoorKy
import Derived.Test.YtjoechkdmdinoaaGreatDoorKt
namespace Go.Proofs.YtjoechkdmdinoaaGreatDoor
open Go.RowKit
set_option linter.unusedVariables false
set_option linter.unusedSimpArgs false
def cueP : List UInt8 := [82, 69, 77, 32, 67, 72, 65, 82, 83, 69, 84, 32]
def ssaP : List UInt8 := [67, 104, 97, 114, 115, 101, 116, 58, 32]
def lrcP : List UInt8 := [91, 99, 115, 58]
/-- what a line tells; nothing: it tells none. -/
def lineP (b : ByteArray) (pre : List UInt8) (p : Nat × Nat × Nat) : Option ByteArray := if Lib.hasPrefix (b.extract p.1 p.2.1).data.toList pre = true then some ⟨(Lib.trimPrefix (b.extract p.1 p.2.1).data.toList pre).toArray⟩ else none
/-- the first that is told. -/
def declF (f : Nat × Nat × Nat → Option ByteArray) : List (Nat × Nat × Nat) → ByteArray
  | [] => ⟨#[]⟩
  | p :: r => match f p with | some s => s | none => declF f r
theorem declF_step (f : Nat × Nat × Nat → Option ByteArray) (L : List (Nat × Nat × Nat)) (k : Nat) (p : Nat × Nat × Nat) (h : L[k]? = some p) : (∀ s, f p = some s → declF f (L.drop k) = s) ∧ (f p = none → declF f (L.drop k) = declF f (L.drop (k + 1))) := by
  obtain ⟨h1, h2⟩ := List.getElem?_eq_some_iff.1 h
  rw [List.drop_eq_getElem_cons h1, h2]
  refine ⟨fun s hs => by rw [declF, hs], fun hn => by rw [declF, hn]⟩
theorem declF_end (f : Nat × Nat × Nat → Option ByteArray) (L : List (Nat × Nat × Nat)) (k : Nat) (h : L.length ≤ k) : declF f (L.drop k) = ⟨#[]⟩ := by
  rw [List.drop_eq_nil_of_le h]; rfl
theorem lnF_len (l : List UInt8) : ∀ (n a : Nat), l.length - a ≤ n → (lnF l a).length ≤ n
  | n, a, h => by
    by_cases ha : a < l.length
    · rw [lnF_cons l a ha, List.length_cons]
      have hg := nx_gt l a ha
      match n, h with
      | 0, h => omega
      | n + 1, h => have := lnF_len l n (nxB l (nxE l a)) (by omega); omega
    · rw [lnF_end l a ha]; exact Nat.zero_le _
theorem lnF_len0 (b : ByteArray) : (lnF (bl b) 0).length ≤ b.size := lnF_len (bl b) b.size 0 (by rw [bl_length]; omega)
theorem lcells_at (b : ByteArray) : ∀ (L : List (Nat × Nat × Nat)) (k : Nat) (p : Nat × Nat × Nat), L[k]? = some p → ∀ (j : Nat) (v : Value), (l1cells b p)[j]? = some v → (lcells b L)[k * 3 + j]? = some v
  | [], k, p, h, _, _, _ => by simp at h
  | q :: L, 0, p, h, j, v, hv => by
    simp at h
    subst h
    have hj : j < (l1cells b q).length := (List.getElem?_eq_some_iff.1 hv).1
    rw [Nat.zero_mul, Nat.zero_add]
    unfold lcells
    rw [List.flatMap_cons, List.getElem?_append_left hj]
    exact hv
  | q :: L, k + 1, p, h, j, v, hv => by
    have := lcells_at b L k p (by simpa using h) j v hv
    unfold lcells
    rw [List.flatMap_cons, List.getElem?_append_right (by simp [l1cells]; omega)]
    rw [show (k + 1) * 3 + j - (l1cells b q).length = k * 3 + j by simp [l1cells]; omega]
    exact this
theorem row_line {w : World} {b : ByteArray} {L : List (Nat × Nat × Nat)} {g o cap n : Nat} (h : Row w (.slice (some ⟨g, o, none⟩) n cap) n (lcells b L)) (k : Nat) (p : Nat × Nat × Nat) (hk : L[k]? = some p) :
    w.cell? ⟨g, o + k * 3, none⟩ = some (.string (b.extract p.1 p.2.1)) ∧ w.cell? ⟨g, o + k * 3 + 1, none⟩ = some (.string (b.extract p.2.1 p.2.2)) ∧ w.cell? ⟨g, o + k * 3 + 2, none⟩ = some (.int .i64 (p.1 : Int)) := by
  have hx : ∀ (j : Nat) (v : Value), (l1cells b p)[j]? = some v → w.cell? ⟨g, o + (k * 3 + j), none⟩ = some v := fun j v hj => by
    obtain ⟨g', o', c', e, hc⟩ := row_at h _ _ (lcells_at b L k p hk j v hj)
    simp only [Value.slice.injEq, Option.some.injEq, Addr.mk.injEq] at e
    obtain ⟨⟨rfl, rfl, _⟩, _, _⟩ := e
    exact hc
  exact ⟨by simpa using hx 0 _ rfl, by have := hx 1 _ rfl; rwa [← Nat.add_assoc] at this, by have := hx 2 _ rfl; rwa [← Nat.add_assoc] at this⟩
theorem cut_any (s : ByteArray) (pre : List UInt8) (w : World) : Calls Tryz.prog 99 #[.string s, .string ⟨pre.toArray⟩] w fun e w' => e = .returned (.tuple #[.string ⟨(Lib.trimPrefix s.data.toList pre).toArray⟩, .bool (Lib.hasPrefix s.data.toList pre)]) ∧ w' = w := by
  have := Tryz.strings_CutPrefix s ⟨pre.toArray⟩ w
  simpa using this
set_option maxRecDepth 100000 in
set_option maxHeartbeats 8000000 in
theorem cdecl_any (b : ByteArray) (w : World) (hs : b.size ≤ 1000000) : Calls Tryz.prog 48 #[.string b] w fun e w' => e = .returned (.string (declF (lineP b cueP) (lnF (bl b) 0))) ∧ Below w.heap.size w w' := by
  obtain ⟨L, hL⟩ : ∃ L, L = lnF (bl b) 0 := ⟨_, rfl⟩
  have k1 := lines_any b w hs
  have hLn := lnF_len0 b
  rw [← hL] at k1 hLn ⊢
  clear hL
  have K1 := Lib.hid k1
  have K2 := Lib.hid (fun (p : Nat × Nat × Nat) w => cut_any (b.extract p.1 p.2.1) cueP w)
  clear k1
  go_enter Tryz.func48, Tryz.ntmps48
  go_wp2_with (go_at_call 98; go_loud (with_reducible refine (K1.out).mono ?_); go_loud (rintro e w1 ⟨v, rfl, hown, hb1⟩); go_loud (obtain ⟨a1, c1, rfl⟩ := orow_form hown))
  have HR := Lib.hid (row_owns hown)
  have HB1 := Lib.hid hb1
  clear hown hb1
  go_loopw [10] (fun iv wr => ∃ k : Nat, iv = .int .i64 (k : Int) ∧ k ≤ L.length ∧ Hid (declF (lineP b cueP) L = declF (lineP b cueP) (L.drop k)) ∧ Hid (Below w1.heap.size w1 wr)) (fun iv _ => L.length - (intOf iv).toNat)
  case atStart => exact ⟨0, rfl, Nat.zero_le _, Lib.hid rfl, Lib.hid (Below.refl _ _)⟩
  case round =>
    obtain ⟨k, rfl, hk, HD, HB⟩ := hrel
    by_cases hlt : k < L.length
    · obtain ⟨p, hp⟩ := at_some L k hlt
      obtain ⟨h1, h2⟩ := declF_step (lineP b cueP) L k p hp
      have hrow := HR.out.keep HB.out
      obtain ⟨g, o, c', e, _⟩ := row_at hrow _ _ (lcells_at b L k p hp 0 _ rfl)
      simp only [Value.slice.injEq] at e
      obtain ⟨rfl, _, rfl⟩ := e
      obtain ⟨q0, q1, q2⟩ := row_line hrow k p hp
      have k2 := K2.out p
      unfold lineP at h1 h2
      have HBB := Lib.hid (HB1.out.trans (HB.out.mono HB1.out.size))
      obtain ⟨S, hS⟩ : ∃ S, S = b.extract p.1 p.2.1 := ⟨_, rfl⟩
      obtain ⟨U, hU⟩ : ∃ U, U = b.extract p.2.1 p.2.2 := ⟨_, rfl⟩
      obtain ⟨R, hR⟩ : ∃ R : ByteArray, R = ⟨(Lib.trimPrefix (b.extract p.1 p.2.1).data.toList cueP).toArray⟩ := ⟨_, rfl⟩
      rw [← hS] at q0
      rw [← hU] at q1
      rw [← hR] at h1 k2
      rw [← hS] at h1 h2 k2
      cases hc : Lib.hasPrefix S.data.toList cueP with
      | true =>
        rw [hc] at h1 k2
        have hd := h1 R rfl
        have HD2 := Lib.hid (HD.out.trans hd)
        have K3 := Lib.hid k2
        clear h1 h2 k2 hd hrow hp hS hU hR hc
        go_wp2_with (go_at_call 99; go_loud (refine (K3.out _).mono ?_); go_loud (rintro e w2 ⟨rfl, rfl⟩))
        go_ret
        exact ⟨by rw [HD2.out]; rfl, bal HBB.out _⟩
      | false =>
        rw [hc] at h2 k2
        have hd := h2 rfl
        have HD2 := Lib.hid (HD.out.trans hd)
        have K3 := Lib.hid k2
        clear h1 h2 k2 hd hrow hp hS hU hR hc
        go_wp2_with (go_at_call 99; go_loud (refine (K3.out _).mono ?_); go_loud (rintro e w2 ⟨rfl, rfl⟩))
        go_roundw
        case rel => exact ⟨k + 1, by first | omega | go_num, by omega, HD2, Lib.hid (bal HB.out _)⟩
        case measure => simp [intOf]; omega
    · have hd := declF_end (lineP b cueP) L k (by omega)
      have HD2 := Lib.hid (HD.out.trans hd)
      have HBB := Lib.hid (HB1.out.trans (HB.out.mono HB1.out.size))
      clear hd
      go_wp2
      go_ret
      exact ⟨by rw [HD2.out]; rfl, HBB.out⟩
set_option maxRecDepth 100000 in
set_option maxHeartbeats 8000000 in
theorem sdecl_any (b : ByteArray) (w : World) (hs : b.size ≤ 1000000) : Calls Tryz.prog 49 #[.string b] w fun e w' => e = .returned (.string (declF (lineP b ssaP) (lnF (bl b) 0))) ∧ Below w.heap.size w w' := by
  obtain ⟨L, hL⟩ : ∃ L, L = lnF (bl b) 0 := ⟨_, rfl⟩
  have k1 := lines_any b w hs
  have hLn := lnF_len0 b
  rw [← hL] at k1 hLn ⊢
  clear hL
  have K1 := Lib.hid k1
  have K2 := Lib.hid (fun (p : Nat × Nat × Nat) w => cut_any (b.extract p.1 p.2.1) ssaP w)
  clear k1
  go_enter Tryz.func49, Tryz.ntmps49
  go_wp2_with (go_at_call 98; go_loud (with_reducible refine (K1.out).mono ?_); go_loud (rintro e w1 ⟨v, rfl, hown, hb1⟩); go_loud (obtain ⟨a1, c1, rfl⟩ := orow_form hown))
  have HR := Lib.hid (row_owns hown)
  have HB1 := Lib.hid hb1
  clear hown hb1
  go_loopw [10] (fun iv wr => ∃ k : Nat, iv = .int .i64 (k : Int) ∧ k ≤ L.length ∧ Hid (declF (lineP b ssaP) L = declF (lineP b ssaP) (L.drop k)) ∧ Hid (Below w1.heap.size w1 wr)) (fun iv _ => L.length - (intOf iv).toNat)
  case atStart => exact ⟨0, rfl, Nat.zero_le _, Lib.hid rfl, Lib.hid (Below.refl _ _)⟩
  case round =>
    obtain ⟨k, rfl, hk, HD, HB⟩ := hrel
    by_cases hlt : k < L.length
    · obtain ⟨p, hp⟩ := at_some L k hlt
      obtain ⟨h1, h2⟩ := declF_step (lineP b ssaP) L k p hp
      have hrow := HR.out.keep HB.out
      obtain ⟨g, o, c', e, _⟩ := row_at hrow _ _ (lcells_at b L k p hp 0 _ rfl)
      simp only [Value.slice.injEq] at e
      obtain ⟨rfl, _, rfl⟩ := e
      obtain ⟨q0, q1, q2⟩ := row_line hrow k p hp
      have k2 := K2.out p
      unfold lineP at h1 h2
      have HBB := Lib.hid (HB1.out.trans (HB.out.mono HB1.out.size))
      obtain ⟨S, hS⟩ : ∃ S, S = b.extract p.1 p.2.1 := ⟨_, rfl⟩
      obtain ⟨U, hU⟩ : ∃ U, U = b.extract p.2.1 p.2.2 := ⟨_, rfl⟩
      obtain ⟨R, hR⟩ : ∃ R : ByteArray, R = ⟨(Lib.trimPrefix (b.extract p.1 p.2.1).data.toList ssaP).toArray⟩ := ⟨_, rfl⟩
      rw [← hS] at q0
      rw [← hU] at q1
      rw [← hR] at h1 k2
      rw [← hS] at h1 h2 k2
      cases hc : Lib.hasPrefix S.data.toList ssaP with
      | true =>
        rw [hc] at h1 k2
        have hd := h1 R rfl
        have HD2 := Lib.hid (HD.out.trans hd)
        have K3 := Lib.hid k2
        clear h1 h2 k2 hd hrow hp hS hU hR hc
        go_wp2_with (go_at_call 99; go_loud (refine (K3.out _).mono ?_); go_loud (rintro e w2 ⟨rfl, rfl⟩))
        go_ret
        exact ⟨by rw [HD2.out]; rfl, bal HBB.out _⟩
      | false =>
        rw [hc] at h2 k2
        have hd := h2 rfl
        have HD2 := Lib.hid (HD.out.trans hd)
        have K3 := Lib.hid k2
        clear h1 h2 k2 hd hrow hp hS hU hR hc
        go_wp2_with (go_at_call 99; go_loud (refine (K3.out _).mono ?_); go_loud (rintro e w2 ⟨rfl, rfl⟩))
        go_roundw
        case rel => exact ⟨k + 1, by first | omega | go_num, by omega, HD2, Lib.hid (bal HB.out _)⟩
        case measure => simp [intOf]; omega
    · have hd := declF_end (lineP b ssaP) L k (by omega)
      have HD2 := Lib.hid (HD.out.trans hd)
      have HBB := Lib.hid (HB1.out.trans (HB.out.mono HB1.out.size))
      clear hd
      go_wp2
      go_ret
      exact ⟨by rw [HD2.out]; rfl, HBB.out⟩
end Go.Proofs.YtjoechkdmdinoaaGreatDoor
namespace Go.Proofs.YtjoechkdmdinoaaGreatDoor
open Go Go.Rf Go.RowKit
set_option linter.unusedVariables false
set_option linter.unusedSimpArgs false
def cloL : List UInt8 := [93]
/-- does a text end with a bracket? -/
def sufB (s : ByteArray) : Bool := (s.extract (s.size - 1) s.size).data.toList == cloL
def tC0 : Told := { b := [(.geq, .sym 1, lI 1, lB false)], l := [(0, .sym 1)] }
def tC1 (v : Bool) : Told := { b := [(.geq, .sym 1, lI 1, lB true), (.sub, .sym 1, lI 1, .sym 2), (.eql, .sym 3, lS cloL, lB v)], s := [(.sym 0, some (.sym 2), none, .sym 3), (.sym 0, none, some (.sym 2), .sym 4)], l := [(0, .sym 1)] }
theorem rC0 : symEv tC0 100 [.a (.sym 0), .a (lS cloL)] = some (.t [.a (.sym 0), .a (lB false)]) := by kernel_rfl
theorem rC1 : symEv (tC1 true) 100 [.a (.sym 0), .a (lS cloL)] = some (.t [.a (.sym 4), .a (lB true)]) := by kernel_rfl
theorem rC2 : symEv (tC1 false) 100 [.a (.sym 0), .a (lS cloL)] = some (.t [.a (.sym 0), .a (lB false)]) := by kernel_rfl
theorem cutsuf_any (s : ByteArray) (w : World) (hG : GW w) (hs : s.size ≤ 9223372036854775807) : Calls Tryz.prog 100 #[.string s, .string ⟨⟨cloL⟩⟩] w fun e w' => e = .returned (.tuple #[.string (if sufB s = true then s.extract 0 (s.size - 1) else s), .bool (sufB s)]) ∧ Below w.heap.size w w' := by
  obtain ⟨C, hC⟩ : ∃ C, C = s.extract (s.size - 1) s.size := ⟨_, rfl⟩
  obtain ⟨A, hA⟩ : ∃ A, A = s.extract 0 (s.size - 1) := ⟨_, rfl⟩
  letI := sgL [.string s, .int .i64 s.size, .int .i64 ((s.size : Int) - 1), .string C, .string A] ⟨okS_str _, okS_int _ _, okS_int _ _, okS_str _, okS_str _, trivial⟩
  have hL : AllP LenOk [((0 : Nat), At.sym 1)] := ⟨⟨s, rfl, fun _ => rfl⟩, trivial⟩
  rw [← hA]
  by_cases h : 1 ≤ s.size
  · have b1 : BOk (.geq, .sym 1, lI 1, lB true) := bok_geq (a := s.size) (c := 1) (k := .i64) (fun _ => rfl) (fun _ => rfl) (by simp; omega)
    have b2 : BOk (.sub, .sym 1, lI 1, .sym 2) := bok_subI (a := s.size) (c := 1) (k := .i64) (fun _ => rfl) (fun _ => rfl) (fun _ => rfl) (wi64 _ (by omega) (by omega))
    have b3 : BOk (.eql, .sym 3, lS cloL, lB (sufB s)) := bok_eqs (s := C) (t := ⟨⟨cloL⟩⟩) (fun _ => rfl) (fun _ => rfl) (by rw [hC]; rfl)
    have e1 : (s.size : Int) - 1 = ((s.size - 1 : Nat) : Int) := by omega
    have s1 : AllP SliOk [((At.sym 0), some (At.sym 2), (none : Option At), At.sym 3), (.sym 0, none, some (.sym 2), .sym 4)] :=
      ⟨⟨s, s.size - 1, s.size, fun _ => rfl, ⟨.i64, fun _ => by rw [← e1]; rfl⟩, rfl, by omega, Nat.le_refl _, fun _ => by rw [← hC]; rfl⟩, ⟨s, 0, s.size - 1, fun _ => rfl, rfl, ⟨.i64, fun _ => by rw [← e1]; rfl⟩, Nat.zero_le _, by omega, fun _ => by rw [← hA]; rfl⟩, trivial⟩
    cases hb : sufB s with
    | true =>
      rw [hb] at b3
      exact sym_to (vals := [.string s, .string ⟨⟨cloL⟩⟩]) (v := .tuple #[.string A, .bool true]) (T := tC1 true) hG ⟨⟨b1, b2, b3, trivial⟩, trivial, s1, hL, trivial, trivial, trivial⟩ rfl rC1 (fun _ => rfl)
    | false =>
      rw [hb] at b3
      exact sym_to (vals := [.string s, .string ⟨⟨cloL⟩⟩]) (v := .tuple #[.string s, .bool false]) (T := tC1 false) hG ⟨⟨b1, b2, b3, trivial⟩, trivial, s1, hL, trivial, trivial, trivial⟩ rfl rC2 (fun _ => rfl)
  · have hz : s = ⟨#[]⟩ := by apply ByteArray.ext; apply Array.eq_empty_of_size_eq_zero; show s.size = 0; omega
    have hb : sufB s = false := by rw [hz]; rfl
    rw [hb]
    exact sym_to (vals := [.string s, .string ⟨⟨cloL⟩⟩]) (v := .tuple #[.string s, .bool false]) (T := tC0) hG ⟨⟨bok_geq (a := s.size) (c := 1) (k := .i64) (fun _ => rfl) (fun _ => rfl) (by simp; omega), trivial⟩, trivial, trivial, hL, trivial, trivial, trivial⟩ rfl rC0 (fun _ => rfl)
/-- what a song's line tells. -/
def lineL (b : ByteArray) (p : Nat × Nat × Nat) : Option ByteArray := match lineP b lrcP p with
  | some r => if sufB r = true then some (r.extract 0 (r.size - 1)) else none
  | none => none
end Go.Proofs.YtjoechkdmdinoaaGreatDoor
namespace Go.Proofs.YtjoechkdmdinoaaGreatDoor
open Go.RowKit
set_option linter.unusedVariables false
set_option linter.unusedSimpArgs false
theorem trim_len (l p : List UInt8) : (Lib.trimPrefix l p).length ≤ l.length := by
  unfold Lib.trimPrefix
  split
  · rw [List.length_drop]; omega
  · exact Nat.le_refl _
set_option maxRecDepth 100000 in
set_option maxHeartbeats 8000000 in
theorem ldecl_any (b : ByteArray) (w : World) (hG : GW w) (hs : b.size ≤ 1000000) : Calls Tryz.prog 50 #[.string b] w fun e w' => e = .returned (.string (declF (lineL b) (lnF (bl b) 0))) ∧ Below w.heap.size w w' := by
  obtain ⟨L, hL⟩ : ∃ L, L = lnF (bl b) 0 := ⟨_, rfl⟩
  have k1 := lines_any b w hs
  have hLn := lnF_len0 b
  rw [← hL] at k1 hLn ⊢
  clear hL
  have K1 := Lib.hid k1
  have K2 := Lib.hid (fun (p : Nat × Nat × Nat) w => cut_any (b.extract p.1 p.2.1) lrcP w)
  clear k1
  go_enter Tryz.func50, Tryz.ntmps50
  go_wp2_with (go_at_call 98; go_loud (with_reducible refine (K1.out).mono ?_); go_loud (rintro e w1 ⟨v, rfl, hown, hb1⟩); go_loud (obtain ⟨a1, c1, rfl⟩ := orow_form hown))
  have HR := Lib.hid (row_owns hown)
  have HB1 := Lib.hid hb1
  clear hown hb1
  go_loopw [12] (fun iv wr => ∃ k : Nat, iv = .int .i64 (k : Int) ∧ k ≤ L.length ∧ Hid (declF (lineL b) L = declF (lineL b) (L.drop k)) ∧ Hid (Below w1.heap.size w1 wr)) (fun iv _ => L.length - (intOf iv).toNat)
  case atStart => exact ⟨0, rfl, Nat.zero_le _, Lib.hid rfl, Lib.hid (Below.refl _ _)⟩
  case round =>
    obtain ⟨k, rfl, hk, HD, HB⟩ := hrel
    by_cases hlt : k < L.length
    · obtain ⟨p, hp⟩ := at_some L k hlt
      obtain ⟨h1, h2⟩ := declF_step (lineL b) L k p hp
      have hrow := HR.out.keep HB.out
      obtain ⟨g, o, c', e, _⟩ := row_at hrow _ _ (lcells_at b L k p hp 0 _ rfl)
      simp only [Value.slice.injEq] at e
      obtain ⟨rfl, _, rfl⟩ := e
      obtain ⟨q0, q1, q2⟩ := row_line hrow k p hp
      have k2 := K2.out p
      unfold lineL lineP at h1 h2
      have HG := hG.bel (HB1.out.trans (HB.out.mono HB1.out.size))
      have HBB := Lib.hid (HB1.out.trans (HB.out.mono HB1.out.size))
      obtain ⟨S, hS⟩ : ∃ S, S = b.extract p.1 p.2.1 := ⟨_, rfl⟩
      obtain ⟨U, hU⟩ : ∃ U, U = b.extract p.2.1 p.2.2 := ⟨_, rfl⟩
      obtain ⟨R, hR⟩ : ∃ R : ByteArray, R = ⟨(Lib.trimPrefix (b.extract p.1 p.2.1).data.toList lrcP).toArray⟩ := ⟨_, rfl⟩
      have hRs : (⟨(Lib.trimPrefix (b.extract p.1 p.2.1).data.toList lrcP).toArray⟩ : ByteArray).size ≤ 9223372036854775807 := by
        have h1 := trim_len (b.extract p.1 p.2.1).data.toList lrcP
        have h2 : (b.extract p.1 p.2.1).data.toList.length ≤ b.size := by show (b.extract p.1 p.2.1).size ≤ _; rw [ByteArray.size_extract]; omega
        show (Lib.trimPrefix (b.extract p.1 p.2.1).data.toList lrcP).length ≤ _
        omega
      rw [← hS] at q0
      rw [← hU] at q1
      rw [← hR] at h1 h2 k2
      rw [← hS] at h1 h2 k2
      cases hc : Lib.hasPrefix S.data.toList lrcP with
      | true =>
        rw [hc] at h1 h2 k2
        rw [if_pos rfl] at h1 h2
        simp only at h1 h2
        have k3 := fun w hG => cutsuf_any R w hG (by rw [hR]; exact hRs)
        cases hf : sufB R with
        | true =>
          rw [hf] at h1 k3
          rw [if_pos rfl] at h1
          have hd := h1 _ rfl
          simp only [if_true] at k3
          obtain ⟨V, hV⟩ : ∃ V, V = R.extract 0 (R.size - 1) := ⟨_, rfl⟩
          rw [← hV] at hd k3
          have HD2 := Lib.hid (HD.out.trans hd)
          have K3 := Lib.hid k2
          have K4 := Lib.hid k3
          have HGG := Lib.hid HG
          clear h1 h2 k2 hd hrow hp hS hU hR hc hf k3 hV HG hRs
          go_wp2_with (first
            | (go_at_call 99; go_loud (refine (K3.out _).mono ?_); go_loud (rintro e w2 ⟨rfl, rfl⟩))
            | (go_at_call 100; go_loud (refine (K4.out _ (HGG.out.bel (bal (Below.refl _ _) _))).mono ?_); go_loud (rintro e w3 ⟨rfl, hb3⟩)))
          go_ret
          exact ⟨by rw [HD2.out]; rfl, bt (bal HBB.out _) hb3⟩
        | false =>
          rw [hf] at h2 k3
          rw [if_neg (by decide)] at h2
          have hd := h2 rfl
          simp only [Bool.false_eq_true, if_false] at k3
          have HD2 := Lib.hid (HD.out.trans hd)
          have K3 := Lib.hid k2
          have K4 := Lib.hid k3
          have HGG := Lib.hid HG
          clear h1 h2 k2 hd hrow hp hS hU hR hc hf k3 HG hRs
          go_wp2_with (first
            | (go_at_call 99; go_loud (refine (K3.out _).mono ?_); go_loud (rintro e w2 ⟨rfl, rfl⟩))
            | (go_at_call 100; go_loud (refine (K4.out _ (HGG.out.bel (bal (Below.refl _ _) _))).mono ?_); go_loud (rintro e w3 ⟨rfl, hb3⟩)))
          go_roundw
          case rel => exact ⟨k + 1, by first | omega | go_num, by omega, HD2, Lib.hid (bt (bal HB.out _) hb3)⟩
          case measure => simp [intOf]; omega
      | false =>
        rw [hc] at h2 k2
        have hd := h2 rfl
        have HD2 := Lib.hid (HD.out.trans hd)
        have K3 := Lib.hid k2
        clear h1 h2 k2 hd hrow hp hS hU hR hc HG hRs
        go_wp2_with (go_at_call 99; go_loud (refine (K3.out _).mono ?_); go_loud (rintro e w2 ⟨rfl, rfl⟩))
        go_roundw
        case rel => exact ⟨k + 1, by first | omega | go_num, by omega, HD2, Lib.hid (bal HB.out _)⟩
        case measure => simp [intOf]; omega
    · have hd := declF_end (lineL b) L k (by omega)
      have HD2 := Lib.hid (HD.out.trans hd)
      have HBB := Lib.hid (HB1.out.trans (HB.out.mono HB1.out.size))
      clear hd
      go_wp2
      go_ret
      exact ⟨by rw [HD2.out]; rfl, HBB.out⟩
theorem ex_take (S : ByteArray) (n : Nat) (h : n ≤ S.size) : (S.extract 0 n).data.toList = S.data.toList.take n := by
  rw [Go.Rf.extract_bytes S 0 n (Nat.zero_le _) h]
  simp
theorem trim_ex (S : ByteArray) (pre : List UInt8) (hc : Lib.hasPrefix S.data.toList pre = true) (h : pre.length ≤ S.size) : (⟨(Lib.trimPrefix S.data.toList pre).toArray⟩ : ByteArray) = S.extract pre.length S.size := by
  rw [Go.Rf.extract_bytes S pre.length S.size h (Nat.le_refl _)]
  unfold Lib.trimPrefix
  rw [if_pos hc, List.take_of_length_le (by rw [List.length_drop]; exact Nat.le_refl _)]
theorem pre_of (S : ByteArray) (pre : List UInt8) : Lib.hasPrefix S.data.toList pre = (S.data.toList.take pre.length == pre) := by
  rw [Bool.eq_iff_iff]
  simp only [Lib.hasPrefix, List.isPrefixOf_iff_prefix, List.prefix_iff_eq_take, beq_iff_eq]
  exact eq_comm
set_option maxRecDepth 100000 in
set_option maxHeartbeats 8000000 in
theorem rcdecl_any (b : ByteArray) (w : World) (hs : b.size ≤ 1000000) : Calls Tryz.prog 51 #[.string b] w fun e w' => e = .returned (.string (declF (lineP b cueP) (lnF (bl b) 0))) ∧ Below w.heap.size w w' := by
  obtain ⟨L, hL⟩ : ∃ L, L = lnF (bl b) 0 := ⟨_, rfl⟩
  have k1 := rlines_any b w hs
  have hLn := lnF_len0 b
  rw [← hL] at k1 hLn ⊢
  clear hL
  have K1 := Lib.hid k1
  clear k1
  go_enter Tryz.func51, Tryz.ntmps51
  go_wp2_with (go_at_call 44; go_loud (with_reducible refine (K1.out).mono ?_); go_loud (rintro e w1 ⟨v, rfl, hown, hb1⟩); go_loud (obtain ⟨a1, c1, rfl⟩ := orow_form hown))
  have HR := Lib.hid (row_owns hown)
  have HB1 := Lib.hid hb1
  clear hown hb1
  go_loopw [4] (fun iv wr => ∃ k : Nat, iv = .int .i64 (k : Int) ∧ k ≤ L.length ∧ Hid (declF (lineP b cueP) L = declF (lineP b cueP) (L.drop k)) ∧ Hid (Below w1.heap.size w1 wr)) (fun iv _ => L.length - (intOf iv).toNat)
  case atStart => exact ⟨0, rfl, Nat.zero_le _, Lib.hid rfl, Lib.hid (Below.refl _ _)⟩
  case round =>
    obtain ⟨k, rfl, hk, HD, HB⟩ := hrel
    by_cases hlt : k < L.length
    · obtain ⟨p, hp⟩ := at_some L k hlt
      obtain ⟨h1, h2⟩ := declF_step (lineP b cueP) L k p hp
      have hrow := HR.out.keep HB.out
      obtain ⟨g, o, c', e, _⟩ := row_at hrow _ _ (lcells_at b L k p hp 0 _ rfl)
      simp only [Value.slice.injEq] at e
      obtain ⟨rfl, _, rfl⟩ := e
      obtain ⟨q0, q1, q2⟩ := row_line hrow k p hp
      unfold lineP at h1 h2
      have HBB := Lib.hid (HB1.out.trans (HB.out.mono HB1.out.size))
      obtain ⟨S, hS⟩ : ∃ S, S = b.extract p.1 p.2.1 := ⟨_, rfl⟩
      rw [← hS] at q0 h1 h2
      have hpre : Lib.hasPrefix S.data.toList cueP = (S.data.toList.take 12 == cueP) := pre_of S cueP
      by_cases hz : 12 ≤ S.size
      · have hz' : (12 : Int) ≤ (S.size : Int) := by omega
        have hps : S.data.toList.take 12 = (S.extract 0 12).data.toList := (ex_take S 12 hz).symm
        rw [hps] at hpre
        have hz3 : ((S.extract 0 12).toList == [82, 69, 77, 32, 67, 72, 65, 82, 83, 69, 84, 32]) = Lib.hasPrefix S.data.toList cueP := by rw [ByteArray.toList_eq]; exact hpre.symm
        cases hc : Lib.hasPrefix S.data.toList cueP with
        | true =>
          rw [hc] at hz3
          rw [hc, if_pos rfl] at h1
          have hd := h1 _ rfl
          have htr : (⟨(Lib.trimPrefix S.data.toList cueP).toArray⟩ : ByteArray) = S.extract 12 S.size := trim_ex S cueP hc hz
          rw [htr] at hd
          have HD2 := Lib.hid (HD.out.trans hd)
          clear h1 h2 hrow hp hS hpre hc hd htr hps
          go_wp2
          go_ret
          exact ⟨by rw [HD2.out]; rfl, HBB.out⟩
        | false =>
          rw [hc] at hz3
          rw [hc] at h2
          have hd := h2 (by simp)
          have HD2 := Lib.hid (HD.out.trans hd)
          clear h1 h2 hrow hp hS hpre hc hd hps
          go_wp2
          go_roundw
          case rel => exact ⟨k + 1, by first | omega | go_num, by omega, HD2, HB⟩
          case measure => simp [intOf]; omega
      · have hc : Lib.hasPrefix S.data.toList cueP = false := by
          rw [hpre, beq_eq_false_iff_ne]
          intro e
          have := congrArg List.length e
          rw [List.length_take] at this
          have h3 : S.data.toList.length = S.size := rfl
          simp [cueP] at this
          omega
        rw [hc] at h2
        have hd := h2 (by simp)
        have HD2 := Lib.hid (HD.out.trans hd)
        have hz' : ¬ (12 : Int) ≤ (S.size : Int) := by omega
        clear h1 h2 hrow hp hS hpre hc hd
        go_wp2
        go_roundw
        case rel => exact ⟨k + 1, by first | omega | go_num, by omega, HD2, HB⟩
        case measure => simp [intOf]; omega
    · have hd := declF_end (lineP b cueP) L k (by omega)
      have HD2 := Lib.hid (HD.out.trans hd)
      have HBB := Lib.hid (HB1.out.trans (HB.out.mono HB1.out.size))
      clear hd
      go_wp2
      go_ret
      exact ⟨by rw [HD2.out]; rfl, HBB.out⟩
set_option maxRecDepth 100000 in
set_option maxHeartbeats 8000000 in
theorem rsdecl_any (b : ByteArray) (w : World) (hs : b.size ≤ 1000000) : Calls Tryz.prog 52 #[.string b] w fun e w' => e = .returned (.string (declF (lineP b ssaP) (lnF (bl b) 0))) ∧ Below w.heap.size w w' := by
  obtain ⟨L, hL⟩ : ∃ L, L = lnF (bl b) 0 := ⟨_, rfl⟩
  have k1 := rlines_any b w hs
  have hLn := lnF_len0 b
  rw [← hL] at k1 hLn ⊢
  clear hL
  have K1 := Lib.hid k1
  clear k1
  go_enter Tryz.func52, Tryz.ntmps52
  go_wp2_with (go_at_call 44; go_loud (with_reducible refine (K1.out).mono ?_); go_loud (rintro e w1 ⟨v, rfl, hown, hb1⟩); go_loud (obtain ⟨a1, c1, rfl⟩ := orow_form hown))
  have HR := Lib.hid (row_owns hown)
  have HB1 := Lib.hid hb1
  clear hown hb1
  go_loopw [4] (fun iv wr => ∃ k : Nat, iv = .int .i64 (k : Int) ∧ k ≤ L.length ∧ Hid (declF (lineP b ssaP) L = declF (lineP b ssaP) (L.drop k)) ∧ Hid (Below w1.heap.size w1 wr)) (fun iv _ => L.length - (intOf iv).toNat)
  case atStart => exact ⟨0, rfl, Nat.zero_le _, Lib.hid rfl, Lib.hid (Below.refl _ _)⟩
  case round =>
    obtain ⟨k, rfl, hk, HD, HB⟩ := hrel
    by_cases hlt : k < L.length
    · obtain ⟨p, hp⟩ := at_some L k hlt
      obtain ⟨h1, h2⟩ := declF_step (lineP b ssaP) L k p hp
      have hrow := HR.out.keep HB.out
      obtain ⟨g, o, c', e, _⟩ := row_at hrow _ _ (lcells_at b L k p hp 0 _ rfl)
      simp only [Value.slice.injEq] at e
      obtain ⟨rfl, _, rfl⟩ := e
      obtain ⟨q0, q1, q2⟩ := row_line hrow k p hp
      unfold lineP at h1 h2
      have HBB := Lib.hid (HB1.out.trans (HB.out.mono HB1.out.size))
      obtain ⟨S, hS⟩ : ∃ S, S = b.extract p.1 p.2.1 := ⟨_, rfl⟩
      rw [← hS] at q0 h1 h2
      have hpre : Lib.hasPrefix S.data.toList ssaP = (S.data.toList.take 9 == ssaP) := pre_of S ssaP
      by_cases hz : 9 ≤ S.size
      · have hz' : (9 : Int) ≤ (S.size : Int) := by omega
        have hps : S.data.toList.take 9 = (S.extract 0 9).data.toList := (ex_take S 9 hz).symm
        rw [hps] at hpre
        have hz3 : ((S.extract 0 9).toList == [67, 104, 97, 114, 115, 101, 116, 58, 32]) = Lib.hasPrefix S.data.toList ssaP := by rw [ByteArray.toList_eq]; exact hpre.symm
        cases hc : Lib.hasPrefix S.data.toList ssaP with
        | true =>
          rw [hc] at hz3
          rw [hc, if_pos rfl] at h1
          have hd := h1 _ rfl
          have htr : (⟨(Lib.trimPrefix S.data.toList ssaP).toArray⟩ : ByteArray) = S.extract 9 S.size := trim_ex S ssaP hc hz
          rw [htr] at hd
          have HD2 := Lib.hid (HD.out.trans hd)
          clear h1 h2 hrow hp hS hpre hc hd htr hps
          go_wp2
          go_ret
          exact ⟨by rw [HD2.out]; rfl, HBB.out⟩
        | false =>
          rw [hc] at hz3
          rw [hc] at h2
          have hd := h2 (by simp)
          have HD2 := Lib.hid (HD.out.trans hd)
          clear h1 h2 hrow hp hS hpre hc hd hps
          go_wp2
          go_roundw
          case rel => exact ⟨k + 1, by first | omega | go_num, by omega, HD2, HB⟩
          case measure => simp [intOf]; omega
      · have hc : Lib.hasPrefix S.data.toList ssaP = false := by
          rw [hpre, beq_eq_false_iff_ne]
          intro e
          have := congrArg List.length e
          rw [List.length_take] at this
          have h3 : S.data.toList.length = S.size := rfl
          simp [ssaP] at this
          omega
        rw [hc] at h2
        have hd := h2 (by simp)
        have HD2 := Lib.hid (HD.out.trans hd)
        have hz' : ¬ (9 : Int) ≤ (S.size : Int) := by omega
        clear h1 h2 hrow hp hS hpre hc hd
        go_wp2
        go_roundw
        case rel => exact ⟨k + 1, by first | omega | go_num, by omega, HD2, HB⟩
        case measure => simp [intOf]; omega
    · have hd := declF_end (lineP b ssaP) L k (by omega)
      have HD2 := Lib.hid (HD.out.trans hd)
      have HBB := Lib.hid (HB1.out.trans (HB.out.mono HB1.out.size))
      clear hd
      go_wp2
      go_ret
      exact ⟨by rw [HD2.out]; rfl, HBB.out⟩
end Go.Proofs.YtjoechkdmdinoaaGreatDoor
namespace Go.Proofs.YtjoechkdmdinoaaGreatDoor
open Go.RowKit
set_option linter.unusedVariables false
set_option linter.unusedSimpArgs false
/-- what a song's line tells, of its text. -/
def songS (S : ByteArray) : Option ByteArray := match (if Lib.hasPrefix S.data.toList lrcP = true then some (⟨(Lib.trimPrefix S.data.toList lrcP).toArray⟩ : ByteArray) else none) with
  | some r => if sufB r = true then some (r.extract 0 (r.size - 1)) else none
  | none => none
theorem lineL_of (b : ByteArray) (p : Nat × Nat × Nat) (S : ByteArray) (hS : S = b.extract p.1 p.2.1) : lineL b p = songS S := by
  subst hS
  rfl
theorem trim4 (S : ByteArray) (hc : Lib.hasPrefix S.data.toList lrcP = true) (h : 4 ≤ S.size) : (⟨(Lib.trimPrefix S.data.toList lrcP).toArray⟩ : ByteArray) = S.extract 4 S.size := trim_ex S lrcP hc h
theorem song_of (S : ByteArray) (x : UInt8) (h : 5 ≤ S.size) (hx : (bl S)[S.size - 1]? = some x) : songS S = if (Lib.hasPrefix S.data.toList lrcP && x == 93) = true then some (S.extract 4 (S.size - 1)) else none := by
  unfold songS
  cases hc : Lib.hasPrefix S.data.toList lrcP with
  | false => rfl
  | true =>
    rw [if_pos rfl, trim4 S hc (by omega)]
    have hsz : (S.extract 4 S.size).size = S.size - 4 := by rw [ByteArray.size_extract]; omega
    have e4 : S.extract 4 S.size = ⟨((bl S).drop 4).toArray⟩ := by
      rw [Go.Rf.extract_bytes S 4 S.size (by omega) (Nat.le_refl _)]
      have e : ((bl S).drop 4).take (S.size - 4) = (bl S).drop 4 := List.take_of_length_le (by rw [List.length_drop]; show (bl S).length - 4 ≤ _; rw [bl_length]; exact Nat.le_refl _)
      show (⟨(((bl S).drop 4).take (S.size - 4)).toArray⟩ : ByteArray) = _
      rw [e]
    have hd : (S.extract 4 S.size).data.toList = (bl S).drop 4 := by rw [e4]
    have hs : sufB (S.extract 4 S.size) = (x == 93) := by
      unfold sufB
      rw [hsz, Go.Rf.extract_bytes _ (S.size - 4 - 1) (S.size - 4) (by omega) (by rw [hsz]; exact Nat.le_refl _), hd]
      show ((((bl S).drop 4).drop (S.size - 4 - 1)).take (S.size - 4 - (S.size - 4 - 1)) == cloL) = _
      rw [List.drop_drop, show 4 + (S.size - 4 - 1) = S.size - 1 by omega, show S.size - 4 - (S.size - 4 - 1) = 1 by omega, drop_atI (bl S) (S.size - 1) x hx]
      show ([x] == [93]) = _
      rw [Bool.eq_iff_iff]
      simp
    have hE : (S.extract 4 S.size).extract 0 ((S.extract 4 S.size).size - 1) = S.extract 4 (S.size - 1) := by
      rw [hsz, Go.Rf.extract_bytes _ 0 (S.size - 4 - 1) (Nat.zero_le _) (by rw [hsz]; omega), hd, Go.Rf.extract_bytes S 4 (S.size - 1) (by omega) (by omega)]
      have e : (((bl S).drop 4).drop 0).take (S.size - 4 - 1 - 0) = ((bl S).drop 4).take (S.size - 1 - 4) := by
        rw [List.drop_zero, show S.size - 4 - 1 - 0 = S.size - 1 - 4 by omega]
      rw [e]
    simp only [hs, hE, Bool.true_and]
theorem song_short (S : ByteArray) (h : S.size < 5) : songS S = none := by
  unfold songS
  cases hc : Lib.hasPrefix S.data.toList lrcP with
  | false => rfl
  | true =>
    rw [if_pos rfl]
    have h4 : 4 ≤ S.size := by
      rw [pre_of] at hc
      have := congrArg List.length (beq_iff_eq.1 hc)
      rw [List.length_take] at this
      have h3 : S.data.toList.length = S.size := rfl
      simp [lrcP] at this
      omega
    rw [trim4 S hc h4]
    have hz : S.extract 4 S.size = ⟨#[]⟩ := by
      apply ByteArray.ext
      apply Array.eq_empty_of_size_eq_zero
      show (S.extract 4 S.size).size = 0
      rw [ByteArray.size_extract]; omega
    rw [hz]
    rfl
set_option maxRecDepth 100000 in
set_option maxHeartbeats 8000000 in
theorem rldecl_any (b : ByteArray) (w : World) (hs : b.size ≤ 1000000) : Calls Tryz.prog 53 #[.string b] w fun e w' => e = .returned (.string (declF (lineL b) (lnF (bl b) 0))) ∧ Below w.heap.size w w' := by
  obtain ⟨L, hL⟩ : ∃ L, L = lnF (bl b) 0 := ⟨_, rfl⟩
  have k1 := rlines_any b w hs
  have hLn := lnF_len0 b
  rw [← hL] at k1 hLn ⊢
  clear hL
  have K1 := Lib.hid k1
  clear k1
  go_enter Tryz.func53, Tryz.ntmps53
  go_wp2_with (go_at_call 44; go_loud (with_reducible refine (K1.out).mono ?_); go_loud (rintro e w1 ⟨v, rfl, hown, hb1⟩); go_loud (obtain ⟨a1, c1, rfl⟩ := orow_form hown))
  have HR := Lib.hid (row_owns hown)
  have HB1 := Lib.hid hb1
  clear hown hb1
  go_loopw [4] (fun iv wr => ∃ k : Nat, iv = .int .i64 (k : Int) ∧ k ≤ L.length ∧ Hid (declF (lineL b) L = declF (lineL b) (L.drop k)) ∧ Hid (Below w1.heap.size w1 wr)) (fun iv _ => L.length - (intOf iv).toNat)
  case atStart => exact ⟨0, rfl, Nat.zero_le _, Lib.hid rfl, Lib.hid (Below.refl _ _)⟩
  case round =>
    obtain ⟨k, rfl, hk, HD, HB⟩ := hrel
    by_cases hlt : k < L.length
    · obtain ⟨p, hp⟩ := at_some L k hlt
      obtain ⟨h1, h2⟩ := declF_step (lineL b) L k p hp
      have hrow := HR.out.keep HB.out
      obtain ⟨g, o, c', e, _⟩ := row_at hrow _ _ (lcells_at b L k p hp 0 _ rfl)
      simp only [Value.slice.injEq] at e
      obtain ⟨rfl, _, rfl⟩ := e
      obtain ⟨q0, q1, q2⟩ := row_line hrow k p hp
      have HBB := Lib.hid (HB1.out.trans (HB.out.mono HB1.out.size))
      obtain ⟨S, hS⟩ : ∃ S, S = b.extract p.1 p.2.1 := ⟨_, rfl⟩
      have hln := lineL_of b p S hS
      rw [hln] at h1 h2
      rw [← hS] at q0
      have hSz : S.size ≤ b.size := by rw [hS, ByteArray.size_extract]; omega
      clear hrow hp hln hS
      by_cases hz : 5 ≤ S.size
      · have hz' : (5 : Int) ≤ (S.size : Int) := by omega
        have hpre : Lib.hasPrefix S.data.toList lrcP = (S.data.toList.take 4 == lrcP) := pre_of S lrcP
        rw [(ex_take S 4 (by omega)).symm] at hpre
        have hz3 : ((S.extract 0 4).toList == [91, 99, 115, 58]) = Lib.hasPrefix S.data.toList lrcP := by rw [ByteArray.toList_eq]; exact hpre.symm
        clear hpre
        obtain ⟨x, hx⟩ := at_some (bl S) (S.size - 1) (by rw [bl_length]; omega)
        have X : ∀ h, S[S.size - 1]'h = x := atB_of S (S.size - 1) x hx
        have hxl := x.toNat_lt
        have t1 : ((S.size : Int) - 1).toNat = S.size - 1 := by omega
        have t2 : IntKind.i64.wrap ((S.size : Int) - 1) = (S.size : Int) - 1 := wi64 _ (by omega) (by omega)
        have t3 : (0 : Int) ≤ (S.size : Int) - 1 := by omega
        have t4 : (S.size : Int) - 1 < (S.size : Int) := by omega
        have t5 : (4 : Int) ≤ (S.size : Int) - 1 := by omega
        have t6 : (S.size : Int) - 1 ≤ (S.size : Int) := by omega
        have hse := song_of S x hz hx
        rw [hse] at h1 h2
        clear hse hx
        cases hc : Lib.hasPrefix S.data.toList lrcP with
        | true =>
          rw [hc] at hz3 h1 h2
          by_cases hq : x = 93
          · subst hq
            have hd := h1 _ rfl
            have HD2 := Lib.hid (HD.out.trans hd)
            clear h1 h2 hc hd
            go_wp2
            go_ret
            exact ⟨by rw [HD2.out]; rfl, HBB.out⟩
          · have g3 : ((x.toNat : Int) == 93) = false := by rw [beq_eq_false_iff_ne]; exact u8_neK x 93 (by decide) hq
            have hd := h2 (by rw [if_neg (by rw [Bool.true_and, beq_iff_eq]; exact hq)])
            have HD2 := Lib.hid (HD.out.trans hd)
            clear h1 h2 hc hd hq
            go_wp2
            go_roundw
            case rel => exact ⟨k + 1, by first | omega | go_num, by omega, HD2, HB⟩
            case measure => simp [intOf]; omega
        | false =>
          rw [hc] at hz3 h2
          have hd := h2 (by simp)
          have HD2 := Lib.hid (HD.out.trans hd)
          clear h1 h2 hc hd
          go_wp2
          go_roundw
          case rel => exact ⟨k + 1, by first | omega | go_num, by omega, HD2, HB⟩
          case measure => simp [intOf]; omega
      · have hd := h2 (song_short S (by omega))
        have HD2 := Lib.hid (HD.out.trans hd)
        have hz' : ¬ (5 : Int) ≤ (S.size : Int) := by omega
        clear h1 h2 hd
        go_wp2
        go_roundw
        case rel => exact ⟨k + 1, by first | omega | go_num, by omega, HD2, HB⟩
        case measure => simp [intOf]; omega
    · have hd := declF_end (lineL b) L k (by omega)
      have HD2 := Lib.hid (HD.out.trans hd)
      have HBB := Lib.hid (HB1.out.trans (HB.out.mono HB1.out.size))
      clear hd
      go_wp2
      go_ret
      exact ⟨by rw [HD2.out]; rfl, HBB.out⟩
end Go.Proofs.YtjoechkdmdinoaaGreatDoor
namespace Go.Proofs.YtjoechkdmdinoaaGreatDoor.sniffDeclares
open Go Go.Rf Go.RowKit
set_option linter.unusedVariables false
set_option linter.unusedSimpArgs false
/- signs: 0 the kind, 1 the text, 2 what it tells, 3 its size -/
def bs (v4 v6 v7 : Bool) : List BinF := [(.gtr, .sym 3, lI 1000, lB false), (.leq, .sym 3, lI 1000, lB true), (.eql, .sym 0, lI 4, lB v4), (.eql, .sym 0, lI 6, lB v6), (.eql, .sym 0, lI 7, lB v7), (.eql, .sym 2, .sym 2, lB true)]
def cs (f g : FuncId) : List SymF := [(f, [.a (.sym 1)], one1 (.sym 2)), (g, [.a (.sym 1)], one1 (.sym 2))]
def told0 : Told := { b := [(.gtr, .sym 3, lI 1000, lB true)], l := [(1, .sym 3)] }
def told (v4 v6 v7 : Bool) (f g : FuncId) : Told := { b := bs v4 v6 v7, l := [(1, .sym 3)], c := cs f g }
theorem run0 : symEv told0 5 [.a (.sym 0), .a (.sym 1)] = some (one1 (lB true)) := by kernel_rfl
theorem run4 : symEv (told true false false 48 51) 5 [.a (.sym 0), .a (.sym 1)] = some (one1 (lB true)) := by kernel_rfl
theorem run6 : symEv (told false true false 49 52) 5 [.a (.sym 0), .a (.sym 1)] = some (one1 (lB true)) := by kernel_rfl
theorem run7 : symEv (told false false true 50 53) 5 [.a (.sym 0), .a (.sym 1)] = some (one1 (lB true)) := by kernel_rfl
theorem runx : symEv (told false false false 48 51) 5 [.a (.sym 0), .a (.sym 1)] = some (one1 (lB true)) := by kernel_rfl
theorem walk (k : Int) (b : ByteArray) {p : Prop} (wk : p) (w0 : b.size ≤ maxLen) (w : World) (hG : GW w) :
    Calls Tryz.prog 5 #[.int .i64 k, .string b] w fun e w' => e = .returned (.bool true) ∧ Below w.heap.size w w' := by
  by_cases hs : b.size > 1000
  · letI := sgL [.int .i64 k, .string b, .string b, .int .i64 b.size] ⟨okS_int _ _, okS_str _, okS_str _, okS_int _ _, trivial⟩
    exact sym_to (vals := [.int .i64 k, .string b]) hG (T := told0) ⟨⟨bok_gtr (a := b.size) (c := 1000) (k := .i64) (fun _ => rfl) (fun _ => rfl) (by simp; omega), trivial⟩, trivial, trivial, ⟨⟨b, rfl, fun _ => rfl⟩, trivial⟩, trivial, trivial, trivial⟩ rfl run0 (fun _ => rfl)
  · have hz : b.size ≤ 1000000 := by omega
    have go : ∀ (v4 v6 v7 : Bool) (f g : FuncId) (R : ByteArray), (k == 4) = v4 → (k == 6) = v6 → (k == 7) = v7 → (∀ w', Below w.heap.size w w' → Calls Tryz.prog f #[.string b] w' fun e w'' => e = .returned (.string R) ∧ Below w'.heap.size w' w'') → (∀ w', Below w.heap.size w w' → Calls Tryz.prog g #[.string b] w' fun e w'' => e = .returned (.string R) ∧ Below w'.heap.size w' w'') →
        symEv (told v4 v6 v7 f g) 5 [.a (.sym 0), .a (.sym 1)] = some (one1 (lB true)) → Calls Tryz.prog 5 #[.int .i64 k, .string b] w fun e w' => e = .returned (.bool true) ∧ Below w.heap.size w w' := by
      intro v4 v6 v7 f g R h4 h6 h7 kf kg hr
      letI := sgL [.int .i64 k, .string b, .string R, .int .i64 b.size] ⟨okS_int _ _, okS_str _, okS_str _, okS_int _ _, trivial⟩
      exact sym_to (vals := [.int .i64 k, .string b]) hG (T := told v4 v6 v7 f g) ⟨⟨bok_gtr (a := b.size) (c := 1000) (k := .i64) (fun _ => rfl) (fun _ => rfl) (by simp; omega), bok_leq (a := b.size) (c := 1000) (k := .i64) (fun _ => rfl) (fun _ => rfl) (by simp; omega),
          bok_eql (a := k) (c := 4) (k := .i64) (fun _ => rfl) (fun _ => rfl) h4, bok_eql (a := k) (c := 6) (k := .i64) (fun _ => rfl) (fun _ => rfl) h6, bok_eql (a := k) (c := 7) (k := .i64) (fun _ => rfl) (fun _ => rfl) h7, bok_eqs (s := R) (t := R) (fun _ => rfl) (fun _ => rfl) (by simp), trivial⟩,
        trivial, trivial, ⟨⟨b, rfl, fun _ => rfl⟩, trivial⟩, ⟨⟨[.string b], _, fun _ => rfl, fun _ => rfl, kf⟩, ⟨[.string b], _, fun _ => rfl, fun _ => rfl, kg⟩, trivial⟩, trivial, trivial⟩ rfl hr (fun _ => rfl)
    by_cases h4 : k = 4
    · subst h4
      exact go true false false _ _ _ rfl rfl rfl (fun w' _ => cdecl_any b w' hz) (fun w' _ => rcdecl_any b w' hz) run4
    · by_cases h6 : k = 6
      · subst h6
        exact go false true false _ _ _ rfl rfl rfl (fun w' _ => sdecl_any b w' hz) (fun w' _ => rsdecl_any b w' hz) run6
      · by_cases h7 : k = 7
        · subst h7
          exact go false false true _ _ _ rfl rfl rfl (fun w' hb => ldecl_any b w' (hG.bel hb) hz) (fun w' _ => rldecl_any b w' hz) run7
        · exact go false false false _ _ _ (by simpa using h4) (by simpa using h6) (by simpa using h7) (fun w' _ => cdecl_any b w' hz) (fun w' _ => rcdecl_any b w' hz) runx
end Go.Proofs.YtjoechkdmdinoaaGreatDoor.sniffDeclares
namespace Go.Proofs.YtjoechkdmdinoaaGreatDoor.sniffDeclares
open Go.ChangeShapes Go.WideShapes Go.ChangeAt Go.RowKit Go.Lib Go.ChangeMaps
set_option linter.unusedVariables false
set_option linter.unusedSimpArgs false
abbrev laidL : List (String × DataW Unit) := [("diacritic/sniff.starts", Rows.laid_diacritic_sniff_starts), ("unicode/utf8.first", Rows.laid_unicode_utf8_first), ("unicode/utf8.acceptRanges", Rows.laid_unicode_utf8_acceptRanges), ("math/bits.deBruijn32tab", Rows.laid_math_bits_deBruijn32tab)]
theorem laidL_met (os : Os) (args : Array Value) : laidMetH Tryz.prog laidL ((World.laidAll Tryz.prog os laidL).forCall (fun _ _ => 0) ⟨#[], args, []⟩).memory := by
  rw [MakeChecks.laidMetH_plain _ _ _ (by kernel_rfl)]
  exact laidMet_laidAll _ (by kernel_rfl) (by kernel_rfl)
theorem laidL_shaped (os : Os) (args : Array Value) : ((World.laidAll Tryz.prog os laidL).forCall (fun _ _ => 0) ⟨#[], args, []⟩).Shaped Tryz.prog := World.shaped_of_ZipB (by kernel_rfl) (by kernel_rfl)
set_option maxRecDepth 100000 in
theorem lifted (os : Os) (started : os.Started) (H : Type) (enc : TypeId × Value → H) :
    ReturnsInHanded {} Tryz.checked os 5 .any (fun w args => (Rows.sniffDeclaresSpec.pre enc Tryz.prog Tryz.f5 Rows.sniffDeclaresRow.domain false w args ∧ laidMetH Tryz.prog laidL w) ∧ sizedMet enc Tryz.prog Tryz.f5 (OpenSpec.ofChange Rows.sniffDeclaresSpec) false w args) (Rows.sniffDeclaresSpec.post enc Tryz.prog Tryz.f5 false true false false) := by
  refine handed_laid_shaped (C := Tryz.checked) (X := fun w => laidMetH Tryz.prog laidL w) (fun _ _ hh h => h.of_heap hh) own started (by kernel_rfl) Tryz.func5
    (ChangeSpec.witness_shaped (enc := enc) (C := Tryz.checked) (os := os) (X := fun w _ => laidMetH Tryz.prog laidL w) false (World.laidAll Tryz.prog os laidL) #[.int .i64 0, .string ByteArray.empty] 8 (World.laidAll_os _ _ _) (laidL_shaped os _) (by kernel_rfl) (by kernel_rfl) (by kernel_rfl) (laidL_met os _)) ?_
  intro W base args ds gs before hval0 hW hL hsh
  rw [MakeChecks.laidMetH_plain _ _ _ (by kernel_rfl)] at hL
  have hT := gw_of (Lib.laidMet.reads hL (n := "math/bits.deBruijn32tab") (.tail _ (.tail _ (.tail _ (.head _))))) (Lib.laidMet.reads hL (n := "unicode/utf8.acceptRanges") (.tail _ (.tail _ (.head _)))) (Lib.laidMet.reads hL (n := "unicode/utf8.first") (.tail _ (.head _))) (Lib.laidMet.reads hL (n := "diacritic/sniff.starts") (.head _)) hsh
  have hval : ∀ (j : Nat) t v, Tryz.f5.params[j]? = some t → args[j]? = some v → Value.okWide Tryz.prog W .any base t v := hval0
  have hW' := hW
  obtain ⟨p, q, hA0, hV, rfl, hfz, hnd⟩ := hW
  have hA : DataW.TrodAll enc Tryz.prog W 0 (fun _ => true) true Tryz.f5.params.toList args.toList ds p := hA0
  rw [Tryz.params5] at hA hval
  obtain ⟨v0, vs0, d0, ds0, p0, q0, hargs, rfl, rfl, h0, r0⟩ := trodAll_cons hA
  obtain ⟨v1, vs1, d1, ds1, p1, q1, rfl, rfl, rfl, h1, r1⟩ := trodAll_cons r0
  obtain ⟨rfl, rfl, rfl⟩ := trodAll_nil r1
  obtain rfl : args = #[v0, v1] := by cases args; simp_all
  obtain ⟨rfl, rfl⟩ := trodVars_none hV
  obtain ⟨a0, rfl, rfl, rfl, w0⟩ := open_int Tryz.underlying3 (hval 0 3 v0 rfl rfl) h0
  obtain ⟨a1, rfl, rfl, rfl, w1⟩ := open_string Tryz.underlying9 (hval 1 9 v1 rfl rfl) h1
  clear hA0 hval0
  simp only [List.append_nil] at hW'
  refine (walk a0 a1 w0 w1 W hT).mono fun e W' ⟨he, hg⟩ => ?_
  subst he
  exact ⟨_, rfl, post_below (pa := []) (pv := []) hW' (trodAll_cons_mk (shut_bool Tryz.underlying4 _) trodAll_mk0) (trodAll_cons_mk (shut_int Tryz.underlying3 w0) (trodAll_cons_mk (shut_string Tryz.underlying9 w1) trodAll_mk0)) rfl hg⟩

theorem over : Rows.sniffDeclaresRow.holds Tryz.pinned (OpenSpec.ofChange Rows.sniffDeclaresSpec) :=
  OpenClaim.holds_of_wide 5 Tryz.f5 rfl rfl rfl rfl rfl rfl rfl ⟨rfl, rfl, rfl, rfl, rfl⟩ rfl rfl rfl rfl rfl k_named Tryz.func5 k_joined (of_decide_eq_true (by kernel_rfl)) k_wrap
    (fun os started H enc _ => lifted os started H enc)

/-- THE STATEMENT: the tied card -/
theorem proved : Rows.SniffDeclaresCardSaid :=
  Claim7.holds_tied_plain_at .later [] [.data, .pinned, .data, .data] true Rows.sniffDeclaresCard.stood.harness Rows.sniffDeclaresCard.stood.looks over (fun _ h => by cases h) k_wf (fun _ h => by cases h) sniffDeclares_row_tie rfl ⟨rfl, rfl⟩ k_main rfl
    (fun f fn hf hfn => by
      obtain rfl : f = 5 := Option.some.inj (k_named.symm.trans hf) |>.symm
      obtain rfl : fn = Tryz.f5 := (Option.some.inj (Tryz.func5.symm.trans hfn)).symm
      exact ⟨k_looks, fun j t ht => by
        rw [Tryz.params5] at ht
        have hm : t ∈ [3, 9] := by simpa using Array.mem_of_getElem? ht
        exact (show Tryz.prog.wantsStandIn t = false by simpa using List.all_eq_true.1 k_stand t hm)⟩)
    k_goes
#print axioms proved
end Go.Proofs.YtjoechkdmdinoaaGreatDoor.sniffDeclares
