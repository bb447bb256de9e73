/- Lines of a text, words, values, forms: plain (layers 22 to 27). -/
import Derived.Test.YtjoechkdmdinoaaGreatDoorMCy
import Derived.Test.YtjoechkdmdinoaaGreatDoorMFy
namespace Go.Proofs.YtjoechkdmdinoaaGreatDoor
open Go.RowKit
set_option linter.unusedVariables false
set_option linter.unusedSimpArgs false
/-- is a byte an end of a line? -/
def eolB (c : UInt8) : Bool := c == 10 || c == 13
/-- the end of the line that begins at a place. -/
def nxE (l : List UInt8) (a : Nat) : Nat := a + ((l.drop a).takeWhile (fun c => !eolB c)).length
/-- behind the end of a line whose text ends at a place. -/
def nxB (l : List UInt8) (e : Nat) : Nat := if e < l.length then (if l[e]? = some 13 ∧ l[e + 1]? = some 10 then e + 2 else e + 1) else e
theorem drop_atI (l : List UInt8) (k : Nat) (c : UInt8) (h : l[k]? = some c) : l.drop k = c :: l.drop (k + 1) := by
  obtain ⟨h1, h2⟩ := List.getElem?_eq_some_iff.1 h
  rw [List.drop_eq_getElem_cons h1, h2]
theorem nxE_step (l : List UInt8) (e : Nat) (c : UInt8) (h : l[e]? = some c) (hc : eolB c = false) : nxE l e = nxE l (e + 1) := by
  unfold nxE
  rw [drop_atI l e c h, List.takeWhile_cons, hc]
  simp
  omega
theorem nxE_stop (l : List UInt8) (e : Nat) (c : UInt8) (h : l[e]? = some c) (hc : eolB c = true) : nxE l e = e := by
  unfold nxE
  rw [drop_atI l e c h, List.takeWhile_cons, hc]
  simp
theorem nxE_end (l : List UInt8) : nxE l l.length = l.length := by
  unfold nxE
  rw [List.drop_length]
  rfl
theorem nxE_ge (l : List UInt8) (a : Nat) : a ≤ nxE l a := Nat.le_add_right _ _
theorem nxE_le (l : List UInt8) (a : Nat) (h : a ≤ l.length) : nxE l a ≤ l.length := by
  unfold nxE
  have h1 := (List.takeWhile_sublist (fun c => !eolB c) (l := l.drop a)).length_le
  rw [List.length_drop] at h1
  omega
theorem nxE_at (l : List UInt8) : ∀ (n a : Nat), l.length - a ≤ n → nxE l a < l.length → ∃ c, l[nxE l a]? = some c ∧ eolB c = true
  | 0, a, hn, h => by have := nxE_ge l a; omega
  | n + 1, a, hn, h => by
    by_cases ha : a < l.length
    · have hc : l[a]? = some (l[a]'ha) := List.getElem?_eq_getElem ha
      cases he : eolB (l[a]'ha) with
      | true => rw [nxE_stop l a _ hc he]; exact ⟨_, hc, he⟩
      | false =>
        rw [nxE_step l a _ hc he] at h ⊢
        exact nxE_at l n (a + 1) (by omega) h
    · have := nxE_ge l a; omega
theorem nxB_ge (l : List UInt8) (e : Nat) : e ≤ nxB l e := by unfold nxB; split <;> (try split) <;> omega
theorem nxB_gt (l : List UInt8) (e : Nat) (h : e < l.length) : e < nxB l e := by unfold nxB; rw [if_pos h]; split <;> omega
theorem nxB_le (l : List UInt8) (e : Nat) (h : e ≤ l.length) : nxB l e ≤ l.length := by
  unfold nxB
  split
  · split
    · rename_i h1 h2
      have := (List.getElem?_eq_some_iff.1 h2.2).1
      omega
    · omega
  · exact h
/-- the lines from a place on: where each begins, where its text ends, where it ends. -/
def lnP (l : List UInt8) : Nat → Nat → List (Nat × Nat × Nat)
  | 0, _ => []
  | n + 1, a => if a < l.length then (a, nxE l a, nxB l (nxE l a)) :: lnP l n (nxB l (nxE l a)) else []
def lnF (l : List UInt8) (a : Nat) : List (Nat × Nat × Nat) := lnP l (l.length + 1 - a) a
theorem nx_gt (l : List UInt8) (a : Nat) (h : a < l.length) : a < nxB l (nxE l a) := by
  have h1 := nxE_ge l a
  have h2 := nxE_le l a (by omega)
  by_cases h3 : nxE l a < l.length
  · have := nxB_gt l _ h3; omega
  · have := nxB_ge l (nxE l a); omega
theorem lnP_fuel (l : List UInt8) : ∀ (n m a : Nat), l.length + 1 - a ≤ n → l.length + 1 - a ≤ m → lnP l n a = lnP l m a
  | 0, 0, a, _, _ => rfl
  | 0, m + 1, a, h1, _ => by rw [lnP, lnP, if_neg (by omega)]
  | n + 1, 0, a, _, h2 => by rw [lnP, lnP, if_neg (by omega)]
  | n + 1, m + 1, a, h1, h2 => by
    rw [lnP, lnP]
    split
    · rename_i h
      have := nx_gt l a h
      rw [lnP_fuel l n m _ (by omega) (by omega)]
    · rfl
theorem lnF_cons (l : List UInt8) (a : Nat) (h : a < l.length) : lnF l a = (a, nxE l a, nxB l (nxE l a)) :: lnF l (nxB l (nxE l a)) := by
  have h1 := nx_gt l a h
  unfold lnF
  obtain ⟨n, hn⟩ : ∃ n, l.length + 1 - a = n + 1 := ⟨l.length - a, by omega⟩
  rw [hn, lnP, if_pos h, lnP_fuel l n (l.length + 1 - nxB l (nxE l a)) _ (by omega) (by omega)]
theorem lnF_end (l : List UInt8) (a : Nat) (h : ¬ a < l.length) : lnF l a = [] := by
  unfold lnF
  cases hn : l.length + 1 - a with
  | zero => rfl
  | succ n => rw [lnP, if_neg h]
/-- the first place at which no end of a line stands. -/
def ld0 (l : List UInt8) : Nat := (l.takeWhile eolB).length
/-- the first line that isn't empty, and the next one. -/
def leadM (l : List UInt8) : List UInt8 × List UInt8 := ((l.drop (ld0 l)).take (nxE l (ld0 l) - ld0 l), (l.drop (nxB l (nxE l (ld0 l)))).take (nxE l (nxB l (nxE l (ld0 l))) - nxB l (nxE l (ld0 l))))
def txt (l : List UInt8) (p : Nat × Nat × Nat) : List UInt8 := (l.drop p.1).take (p.2.1 - p.1)
/-- the lines of a text as the reference looks for a kind. -/
def leadR (l : List UInt8) : List (Nat × Nat × Nat) → Option (List UInt8 × List UInt8)
  | [] => none
  | p :: r => if p.1 = p.2.1 then leadR l r else some (txt l p, match r with | [] => [] | q :: _ => txt l q)
theorem ld0_le (l : List UInt8) : ld0 l ≤ l.length := (List.takeWhile_sublist eolB).length_le
theorem take_while_at (p : UInt8 → Bool) : ∀ (l : List UInt8) (k : Nat), k < (l.takeWhile p).length → ∃ c, l[k]? = some c ∧ p c = true
  | [], k, h => by simp at h
  | c :: l, k, h => by
    rw [List.takeWhile_cons] at h
    cases hc : p c with
    | false => rw [hc] at h; simp at h
    | true =>
      rw [hc] at h
      cases k with
      | zero => exact ⟨c, rfl, hc⟩
      | succ k => simp at h; simpa using take_while_at p l k h
theorem take_while_end (p : UInt8 → Bool) : ∀ (l : List UInt8) (c : UInt8), l[(l.takeWhile p).length]? = some c → p c = false
  | [], c, h => by simp at h
  | d :: l, c, h => by
    rw [List.takeWhile_cons] at h
    cases hd : p d with
    | false => rw [hd] at h; simp at h; subst h; exact hd
    | true => rw [hd] at h; simp at h; exact take_while_end p l c h
theorem leadR_eq (l : List UInt8) : ∀ (n a : Nat), l.length - a ≤ n → a ≤ ld0 l → leadR l (lnF l a) = if ld0 l < l.length then some (leadM l) else none
  | n, a, hn, ha => by
    have h0 := ld0_le l
    by_cases hal : a < l.length
    · rw [lnF_cons l a hal]
      unfold leadR
      simp only
      by_cases he : a = ld0 l
      · have hnot : ¬ a = nxE l a := by
          have hc : l[a]? = some (l[a]'hal) := List.getElem?_eq_getElem hal
          have := take_while_end eolB l (l[a]'hal) (by rw [show (l.takeWhile eolB).length = a from he.symm]; exact hc)
          rw [nxE_step l a _ hc this]
          have := nxE_ge l (a + 1)
          omega
        rw [if_neg hnot, if_pos (by omega)]
        unfold leadM txt
        rw [← he]
        congr 2
        by_cases hb : nxB l (nxE l a) < l.length
        · rw [lnF_cons _ _ hb]
        · rw [lnF_end _ _ hb]
          have : l.drop (nxB l (nxE l a)) = [] := List.drop_eq_nil_of_le (by omega)
          rw [this]
          simp
      · obtain ⟨c, hc, hcc⟩ := take_while_at eolB l a (by show a < ld0 l; omega)
        have hs := nxE_stop l a c hc hcc
        rw [hs, if_pos rfl]
        have hb : nxB l a ≤ ld0 l := by
          unfold nxB
          rw [if_pos hal]
          split
          · rename_i h2
            by_cases h3 : a + 1 < ld0 l
            · omega
            · have h4 : a + 1 = ld0 l := by omega
              have := take_while_end eolB l 10 (by rw [show (l.takeWhile eolB).length = a + 1 from h4.symm]; exact h2.2)
              exact absurd this (by decide)
          · omega
        have hg := nxB_gt l a hal
        match n, hn with
        | 0, hn => omega
        | n + 1, hn => exact leadR_eq l n _ (by omega) hb
    · rw [lnF_end l a hal, if_neg (by omega)]
      rfl
/-- digits, capitals, forms. -/
def dgB (c : UInt8) : Bool := decide (48 ≤ c.toNat) && decide (c.toNat ≤ 57)
def cpB (c : UInt8) : Bool := dgB c || (decide (65 ≤ c.toNat) && decide (c.toNat ≤ 90))
def dgsL (l : List UInt8) : Bool := l.all dgB && !l.isEmpty
def cpsL (l : List UInt8) : Bool := l.all cpB && !l.isEmpty
def likeL : List UInt8 → List UInt8 → Bool
  | [], [] => true
  | c :: l, f :: g => (if f = 48 then dgB c else c == f) && likeL l g
  | _, _ => false
theorem likeL_length : ∀ {l g : List UInt8}, likeL l g = true → l.length = g.length
  | [], [], _ => rfl
  | c :: l, f :: g, h => by
    simp only [likeL, Bool.and_eq_true] at h
    simp [likeL_length h.2]
  | [], _ :: _, h => by simp [likeL] at h
  | _ :: _, [], h => by simp [likeL] at h
theorem likeL_ne : ∀ {l g : List UInt8}, l.length ≠ g.length → likeL l g = false := fun {l g} h => by
  cases hc : likeL l g with
  | false => rfl
  | true => exact absurd (likeL_length hc) h
theorem likeL_append : ∀ (l1 g1 l2 g2 : List UInt8), l1.length = g1.length → likeL (l1 ++ l2) (g1 ++ g2) = (likeL l1 g1 && likeL l2 g2)
  | [], [], l2, g2, _ => by simp [likeL]
  | c :: l1, f :: g1, l2, g2, h => by
    simp only [List.cons_append, likeL]
    rw [likeL_append l1 g1 l2 g2 (by simpa using h), Bool.and_assoc]
  | [], _ :: _, _, _, h => by simp at h
  | _ :: _, [], _, _, h => by simp at h
/-- a sheet's line: the word, behind blanks. -/
def blB (c : UInt8) : Bool := c == 32 || c == 9
def azB (c : UInt8) : Bool := decide (65 ≤ c.toNat) && decide (c.toNat ≤ 90)
def wdI (l : List UInt8) : Nat := (l.takeWhile blB).length
def wdJ (l : List UInt8) : Nat := wdI l + ((l.drop (wdI l)).takeWhile azB).length
def wdW (l : List UInt8) : List UInt8 := (l.drop (wdI l)).take (wdJ l - wdI l)
/-- a value: without quotes, or in two. -/
def valN (l : List UInt8) : Nat := l.count 34
def valOk (l : List UInt8) : Bool := if l.contains 34 then decide (2 ≤ l.length) && (l.head? == some 34) && (l.getLast? == some 34) && !((l.drop 1).take (l.length - 2)).contains 34 else !l.isEmpty
def valR (l : List UInt8) : Bool := (l.count 34 == 0 && !l.isEmpty) || (l.count 34 == 2 && l.head? == some 34 && l.getLast? == some 34)
def wordsL (l : List UInt8) : Bool := match l with
  | [] => false
  | c :: r => cpB c && r.all (fun c => c == 32 || cpB c)
/-- the last blank. -/
def lastB (l : List UInt8) : Option Nat := (List.range l.length).reverse.find? fun k => l[k]? == some 32
theorem tw_len (p : UInt8 → Bool) : ∀ (l : List UInt8) (k : Nat), (l.take k).all p = true → k ≤ l.length → (∀ c, l[k]? = some c → p c = false) → (l.takeWhile p).length = k
  | [], k, _, hk, _ => by simp at hk; subst hk; rfl
  | c :: l, 0, _, _, hn => by
    rw [List.takeWhile_cons, hn c rfl]; rfl
  | c :: l, k + 1, ha, hk, hn => by
    simp only [List.take_succ_cons, List.all_cons, Bool.and_eq_true] at ha
    rw [List.takeWhile_cons, ha.1]
    simp only [if_true, List.length_cons]
    rw [tw_len p l k ha.2 (by simpa using hk) fun c hc => hn c (by simpa using hc)]
theorem all_step (p : UInt8 → Bool) (l : List UInt8) (k : Nat) (x : UInt8) (hx : l[k]? = some x) (ha : (l.take k).all p = true) : (p x = true → (l.take (k + 1)).all p = true) ∧ (p x = false → l.all p = false) := by
  refine ⟨fun h => ?_, fun h => ?_⟩
  · rw [List.take_add_one, hx, List.all_append, ha]
    simp [h]
  · have hm := List.mem_of_getElem? hx
    cases hc : l.all p with
    | false => rfl
    | true => rw [List.all_eq_true.1 hc x hm] at h; cases h
theorem all_end (p : UInt8 → Bool) (l : List UInt8) (k : Nat) (hk : l.length ≤ k) (ha : (l.take k).all p = true) : l.all p = true := by rwa [List.take_of_length_le hk] at ha
/-- forms, byte by byte. -/
theorem likeL_iff : ∀ (l g : List UInt8), l.length = g.length → likeL l g = (List.range l.length).all fun k => match l[k]?, g[k]? with | some c, some f => if f = 48 then dgB c else c == f | _, _ => true
  | [], [], _ => rfl
  | c :: l, f :: g, h => by
    rw [likeL, likeL_iff l g (by simpa using h), List.length_cons, List.range_succ_eq_map, List.all_cons, List.all_map]
    rfl
  | [], _ :: _, h => by simp at h
  | _ :: _, [], h => by simp at h
theorem range_step (q : Nat → Bool) (n k : Nat) (hk : k < n) (ha : (List.range k).all q = true) : (q k = true → (List.range (k + 1)).all q = true) ∧ (q k = false → (List.range n).all q = false) := by
  refine ⟨fun h => ?_, fun h => ?_⟩
  · rw [List.range_succ, List.all_append, ha]; simp [h]
  · cases hc : (List.range n).all q with
    | false => rfl
    | true => rw [List.all_eq_true.1 hc k (List.mem_range.2 hk)] at h; cases h
end Go.Proofs.YtjoechkdmdinoaaGreatDoor
namespace Go.Proofs.YtjoechkdmdinoaaGreatDoor
open Go.RowKit
set_option linter.unusedVariables false
set_option linter.unusedSimpArgs false
theorem u8_neK (x : UInt8) (n : Nat) (hn : n < 256) (h : x ≠ UInt8.ofNat n) : ¬ (x.toNat : Int) = (n : Int) := by
  intro e
  apply h
  apply UInt8.toNat_inj.1
  rw [UInt8.toNat_ofNat']
  omega
set_option maxRecDepth 100000 in
set_option maxHeartbeats 8000000 in
theorem next_any (b : ByteArray) (a : Nat) (w : World) (hs : b.size ≤ 1000000) (ha : a ≤ b.size) : Calls Tryz.prog 175 #[.string b, .int .i64 (a : Int)] w fun e w' =>
    e = .returned (.agg #[.string (b.extract a (nxE (bl b) a)), .string (b.extract (nxE (bl b) a) (nxB (bl b) (nxE (bl b) a))), .int .i64 (a : Int)]) ∧ Below w.heap.size w w' := by
  have HL : Hid ((bl b).length = b.size) := bl_length b
  obtain ⟨E, hE⟩ : ∃ E, E = nxE (bl b) a := ⟨_, rfl⟩
  obtain ⟨B, hB⟩ : ∃ B, B = nxB (bl b) E := ⟨_, rfl⟩
  rw [← hE, ← hB]
  have e1 : a ≤ E := by rw [hE]; exact nxE_ge _ _
  have e2 : E ≤ b.size := by rw [hE, ← HL.out]; exact nxE_le _ _ (by rw [HL.out]; exact ha)
  obtain ⟨W, hW⟩ : ∃ W, W = w.alloc (.cells #[.string ⟨#[]⟩, .string ⟨#[]⟩, .int .i64 0] 135) := ⟨_, rfl⟩
  have hbW : Below w.heap.size w W := by rw [hW]; exact bal (Below.refl _ _) _
  have m0 : Live (w.alloc (.cells #[.string ⟨#[]⟩, .string ⟨#[]⟩, .int .i64 0] 135)) w.heap.size 0 (.string ⟨#[]⟩) := Live.fresh w #[.string ⟨#[]⟩, .string ⟨#[]⟩, .int .i64 0] 135 0 _ rfl
  have m1 : Live (w.alloc (.cells #[.string ⟨#[]⟩, .string ⟨#[]⟩, .int .i64 0] 135)) w.heap.size 1 (.string ⟨#[]⟩) := Live.fresh w #[.string ⟨#[]⟩, .string ⟨#[]⟩, .int .i64 0] 135 1 _ rfl
  have m2 : Live (w.alloc (.cells #[.string ⟨#[]⟩, .string ⟨#[]⟩, .int .i64 0] 135)) w.heap.size 2 (.int .i64 0) := Live.fresh w #[.string ⟨#[]⟩, .string ⟨#[]⟩, .int .i64 0] 135 2 _ rfl
  rw [← hW] at m0 m1 m2
  have HE := Lib.hid hE
  have HB := Lib.hid hB
  have HBW := Lib.hid hbW
  have M0 := Lib.hid m0
  have M1 := Lib.hid m1
  have M2 := Lib.hid m2
  clear hE hB hbW m0 m1 m2
  go_enter Tryz.func175, Tryz.ntmps175
  go_wp2_with fail
  rw [← hW]
  clear hW
  go_loopw [5] (fun i wr => ∃ k : Nat, i = .int .i64 (k : Int) ∧ a ≤ k ∧ k ≤ E ∧ Hid (nxE (bl b) k = E) ∧ wr = W) (fun i _ => b.size - (intOf i).toNat)
  case atStart => exact ⟨a, rfl, Nat.le_refl _, e1, Lib.hid HE.out.symm, rfl⟩
  case round =>
    obtain ⟨k, rfl, hak, hkE, hR, rfl⟩ := hrel
    by_cases hlt : k < b.size
    · obtain ⟨x, hx⟩ := at_some (bl b) k (by rw [HL.out]; exact hlt)
      have X : ∀ h, b[k]'h = x := atB_of b k x hx
      have hxl := x.toNat_lt
      have HX := Lib.hid hx
      clear hx
      cases hc : eolB x with
      | false =>
        have hn := nxE_step (bl b) k x HX.out hc
        rw [hR.out] at hn
        have hk1 : k + 1 ≤ E := by rw [hn]; exact nxE_ge _ _
        have g1 : ¬ (x.toNat : Int) = 10 := u8_neK x 10 (by decide) (by intro h; subst h; cases hc)
        have g2 : ¬ (x.toNat : Int) = 13 := u8_neK x 13 (by decide) (by intro h; subst h; cases hc)
        have g3 : ((x.toNat : Int) != 10) = true := by simpa using g1
        have g4 : ((x.toNat : Int) != 13) = true := by simpa using g2
        have E2 := Lib.hid hn.symm
        clear hn hc g1 g2
        go_wp2
        go_roundw
        case rel => exact ⟨k + 1, by first | omega | go_num, by omega, hk1, E2, trivial⟩
        case measure => simp [intOf]; omega
      | true =>
        have hEk : E = k := by rw [← hR.out, nxE_stop (bl b) k x HX.out hc]
        subst hEk
        have g : x = 10 ∨ x = 13 := by simpa [eolB] using hc
        clear hc
        rcases g with rfl | rfl
        · have hBk : B = E + 1 := by
            rw [HB.out]; unfold nxB
            rw [if_pos (by rw [HL.out]; exact hlt), if_neg (by rw [HX.out]; intro h; cases h.1)]
          subst hBk
          have i1 : ((E : Int) + 1).toNat = E + 1 := by omega
          go_wp2
          obtain ⟨q0, q0'⟩ := M0.out
          obtain ⟨q1, q1'⟩ := M1.out
          obtain ⟨q2, q2'⟩ := M2.out
          go_region
          go_wp2_with fail
          refine bodyPost_ret (v := .agg #[.string (b.extract a E), .string (b.extract E (E + 1)), .int .i64 (a : Int)]) (by simp [results, Tryz.results175, go_sem, q0, q1, q2, q0', q1', q2']) rfl ?_
          exact ⟨rfl, (((HBW.out.setCell (by simp) _).setCell (by simp) _).setCell (by simp) _).drew⟩
        · have i1 : ((E : Int) + 1).toNat = E + 1 := by omega
          have i2 : ((E : Int) + 1 + 1).toNat = E + 2 := by omega
          by_cases h2 : E + 1 < b.size
          · obtain ⟨y, hy⟩ := at_some (bl b) (E + 1) (by rw [HL.out]; exact h2)
            have Y : ∀ h, b[E + 1]'h = y := atB_of b (E + 1) y hy
            have hyl := y.toNat_lt
            have h2' : (E : Int) + 1 < (b.size : Int) := by omega
            by_cases hy10 : y = 10
            · subst hy10
              have hBk : B = E + 2 := by
                rw [HB.out]; unfold nxB
                rw [if_pos (by rw [HL.out]; exact hlt), if_pos ⟨HX.out, hy⟩]
              subst hBk
              clear hy
              go_wp2
              obtain ⟨q0, q0'⟩ := M0.out
              obtain ⟨q1, q1'⟩ := M1.out
              obtain ⟨q2, q2'⟩ := M2.out
              go_region
              go_wp2_with fail
              refine bodyPost_ret (v := .agg #[.string (b.extract a E), .string (b.extract E (E + 2)), .int .i64 (a : Int)]) (by simp [results, Tryz.results175, go_sem, q0, q1, q2, q0', q1', q2']) rfl ?_
              exact ⟨rfl, (((HBW.out.setCell (by simp) _).setCell (by simp) _).setCell (by simp) _).drew⟩
            · have hBk : B = E + 1 := by
                rw [HB.out]; unfold nxB
                rw [if_pos (by rw [HL.out]; exact hlt), if_neg (by rw [hy]; intro h; exact hy10 (Option.some.inj h.2))]
              subst hBk
              have g3 : ((y.toNat : Int) == 10) = false := by rw [beq_eq_false_iff_ne]; exact u8_neK y 10 (by decide) hy10
              clear hy hy10
              go_wp2
              obtain ⟨q0, q0'⟩ := M0.out
              obtain ⟨q1, q1'⟩ := M1.out
              obtain ⟨q2, q2'⟩ := M2.out
              go_region
              go_wp2_with fail
              refine bodyPost_ret (v := .agg #[.string (b.extract a E), .string (b.extract E (E + 1)), .int .i64 (a : Int)]) (by simp [results, Tryz.results175, go_sem, q0, q1, q2, q0', q1', q2']) rfl ?_
              exact ⟨rfl, (((HBW.out.setCell (by simp) _).setCell (by simp) _).setCell (by simp) _).drew⟩
          · have hBk : B = E + 1 := by
              rw [HB.out]; unfold nxB
              rw [if_pos (by rw [HL.out]; exact hlt), if_neg (by rw [List.getElem?_eq_none (by rw [HL.out]; omega : (bl b).length ≤ E + 1)]; intro h; cases h.2)]
            subst hBk
            have h2' : ¬ (E : Int) + 1 < (b.size : Int) := by omega
            go_wp2
            obtain ⟨q0, q0'⟩ := M0.out
            obtain ⟨q1, q1'⟩ := M1.out
            obtain ⟨q2, q2'⟩ := M2.out
            go_region
            go_wp2_with fail
            refine bodyPost_ret (v := .agg #[.string (b.extract a E), .string (b.extract E (E + 1)), .int .i64 (a : Int)]) (by simp [results, Tryz.results175, go_sem, q0, q1, q2, q0', q1', q2']) rfl ?_
            exact ⟨rfl, (((HBW.out.setCell (by simp) _).setCell (by simp) _).setCell (by simp) _).drew⟩
    · have hEk : E = k := by omega
      subst hEk
      have hBk : B = E := by rw [HB.out]; unfold nxB; rw [if_neg (by rw [HL.out]; exact hlt)]
      subst hBk
      have hem : b.extract B B = ByteArray.empty := by simp
      have HEM := Lib.hid hem
      clear hem
      go_wp2
      obtain ⟨q0, q0'⟩ := M0.out
      obtain ⟨q1, q1'⟩ := M1.out
      obtain ⟨q2, q2'⟩ := M2.out
      go_region
      go_wp2_with fail
      refine bodyPost_ret (v := .agg #[.string (b.extract a B), .string ByteArray.empty, .int .i64 (a : Int)]) (by simp [results, Tryz.results175, go_sem, q0, q1, q2, q0', q1', q2']) rfl ?_
      exact ⟨by rw [HEM.out], (((HBW.out.setCell (by simp) _).setCell (by simp) _).setCell (by simp) _).drew⟩
end Go.Proofs.YtjoechkdmdinoaaGreatDoor
namespace Go.Proofs.YtjoechkdmdinoaaGreatDoor
open Go.RowKit
set_option linter.unusedVariables false
set_option linter.unusedSimpArgs false
def l1cells (b : ByteArray) (p : Nat × Nat × Nat) : List Value := [.string (b.extract p.1 p.2.1), .string (b.extract p.2.1 p.2.2), .int .i64 (p.1 : Int)]
def lcells (b : ByteArray) (L : List (Nat × Nat × Nat)) : List Value := L.flatMap (l1cells b)
theorem lcells_snoc (b : ByteArray) (L : List (Nat × Nat × Nat)) (p : Nat × Nat × Nat) : lcells b (L ++ [p]) = lcells b L ++ (#[.string (b.extract p.1 p.2.1), .string (b.extract p.2.1 p.2.2), .int .i64 (p.1 : Int)] : Array Value).toList := by simp [lcells, l1cells]
theorem infoLine : (Tryz.prog.info? 135).map (fun i => (i.zero, i.size, i.bytes)) = some (some (.agg #[.string ⟨#[]⟩, .string ⟨#[]⟩, .int .i64 0]), 3, 40) := by kernel_rfl
theorem ex_size (b : ByteArray) (i j : Nat) (h : j ≤ b.size) : (b.extract i j).size = j - i := by rw [ByteArray.size_extract]; omega
set_option maxRecDepth 100000 in
set_option maxHeartbeats 8000000 in
theorem lines_any (b : ByteArray) (w : World) (hs : b.size ≤ 1000000) : Calls Tryz.prog 98 #[.string b] w fun e w' =>
    ∃ v, e = .returned v ∧ w'.ownsRow w.heap.size 135 3 v (lnF (bl b) 0).length (lcells b (lnF (bl b) 0)) ∧ Below w.heap.size w w' := by
  have HL : Hid ((bl b).length = b.size) := bl_length b
  have K1 := Lib.hid (fun a w ha => next_any b a w hs ha)
  go_enter Tryz.func98, Tryz.ntmps98
  go_wp2
  go_loopw [3, 4] (fun v iv wr => ∃ (a : Nat) (A : List (Nat × Nat × Nat)), iv = .int .i64 (a : Int) ∧ a ≤ b.size ∧ Hid (lnF (bl b) 0 = A ++ lnF (bl b) a) ∧ Hid (wr.ownsRow w.heap.size 135 3 v A.length (lcells b A)) ∧ Hid (Below w.heap.size w wr) ∧ A.length ≤ a) (fun _ iv _ => b.size - (intOf iv).toNat)
  case atStart => exact ⟨0, [], rfl, Nat.zero_le _, Lib.hid rfl, Lib.hid (World.ownsRow_nil _ _ _ _), Lib.hid (Below.refl _ _), Nat.le_refl _⟩
  case round =>
    obtain ⟨a, A, rfl, hab, HA, HO, HB, hAl⟩ := hrel
    by_cases hlt : a < b.size
    · have k1 := fun w => K1.out a w hab
      obtain ⟨E, hE⟩ : ∃ E, E = nxE (bl b) a := ⟨_, rfl⟩
      obtain ⟨D, hD⟩ : ∃ D, D = nxB (bl b) E := ⟨_, rfl⟩
      have hcons := lnF_cons (bl b) a (by rw [HL.out]; exact hlt)
      have e1 : a ≤ E := by rw [hE]; exact nxE_ge _ _
      have e2 : E ≤ b.size := by rw [hE, ← HL.out]; exact nxE_le _ _ (by rw [HL.out]; exact hab)
      have e3 : E ≤ D := by rw [hD]; exact nxB_ge _ _
      have e4 : D ≤ b.size := by rw [hD, ← HL.out]; exact nxB_le _ _ (by rw [HL.out]; exact e2)
      have e5 : a < D := by rw [hD, hE]; exact nx_gt _ _ (by rw [HL.out]; exact hlt)
      rw [← hE, ← hD] at hcons
      rw [← hE] at k1
      rw [← hD] at k1
      obtain ⟨S, hS⟩ : ∃ S, S = b.extract a E := ⟨_, rfl⟩
      obtain ⟨R, hR⟩ : ∃ R, R = b.extract E D := ⟨_, rfl⟩
      have hSs : (S.size : Int) = ((E - a : Nat) : Int) := by rw [hS, ex_size _ _ _ e2]
      have hRs : (R.size : Int) = ((D - E : Nat) : Int) := by rw [hR, ex_size _ _ _ e4]
      have hsum : (S.size : Int) + (R.size : Int) = ((D - a : Nat) : Int) := by rw [hSs, hRs]; omega
      have hsum2 : (a : Int) + ((D - a : Nat) : Int) = (D : Int) := by omega
      rw [← hS, ← hR] at k1
      have HA2 : Hid (lnF (bl b) 0 = (A ++ [(a, E, D)]) ++ lnF (bl b) D) := Lib.hid (by rw [HA.out, hcons, List.append_assoc]; rfl)
      have hsn := lcells_snoc b A (a, E, D)
      simp only [← hS, ← hR] at hsn
      obtain ⟨a1, c1, rfl⟩ := orow_form HO.out
      have hrl : w.heap.size ≤ wr.heap.size := HB.out.size
      have hn1 : A.length < 70368744177664 := by omega
      have hn2 : (A.length + 1) * 40 ≤ 140737488355328 := by omega
      have K2 := Lib.hid k1
      have HSN := Lib.hid hsn
      clear k1 hsn
      clear hE hD hcons hS hR hSs hRs HA
      go_wp2_with (first
        | (go_at_call 175; go_loud (with_reducible refine (K2.out _).mono ?_); go_loud (rintro e w1 ⟨rfl, hb1⟩); go_loud (obtain ⟨p0, p0'⟩ := Live.fresh w1 #[.string S, .string R, .int .i64 (a : Int)] 135 0 _ rfl); go_loud (obtain ⟨p1, p1'⟩ := Live.fresh w1 #[.string S, .string R, .int .i64 (a : Int)] 135 1 _ rfl); go_loud (obtain ⟨p2, p2'⟩ := Live.fresh w1 #[.string S, .string R, .int .i64 (a : Int)] 135 2 _ rfl))
        | (at_builtin; go_loud (refine wpList_push1 rfl _ _ 133 135 rfl Tryz.underlying133 (.agg #[.string ⟨#[]⟩, .string ⟨#[]⟩, .int .i64 0]) 3 40 infoLine rfl (by decide) (w1.alloc (.cells #[.string S, .string R, .int .i64 (a : Int)] 135)) w.heap.size (.slice a1 A.length c1) A.length (lcells b A) rfl (orow_bel HO.out (bal hb1 _)) #[.string S, .string R, .int .i64 (a : Int)] rfl (by simp [Value.oneCell']) (by show Value.slice (some ⟨w1.heap.size + 1, 0, none⟩) 1 1 = _; rw [World.size_alloc]) hn1 hn2 (by rw [World.size_alloc]; have := hb1.size; omega) ?_); go_loud (intro v' w6 hown6 hb6 hk6); go_loud (have F6 := (hk6 w1.heap.size (by rw [World.size_alloc]; omega) (fun hq => by have h1 := (orow_blk HO.out _ hq.symm).2; have h2 := hb1.size; omega)).trans (heap_alloc_new w1 (.cells #[.string S, .string R, .int .i64 (a : Int)] 135))); go_loud (obtain ⟨r0, r0'⟩ := live_of F6 0 _ rfl); go_loud (obtain ⟨r1, r1'⟩ := live_of F6 1 _ rfl))
        | fail)
      have hb1' := hb1.size
      have hBB : Below w.heap.size w w6 := (HB.out.trans ((bal hb1 _).mono HB.out.size)).trans hb6
      have hO6 : w6.ownsRow w.heap.size 135 3 v' (A ++ [(a, E, D)]).length (lcells b (A ++ [(a, E, D)])) := by rw [HSN.out, List.length_append, List.length_cons, List.length_nil]; exact hown6
      refine ⟨⟨D, A ++ [(a, E, D)], rfl, e4, HA2, Lib.hid hO6, Lib.hid hBB, by rw [List.length_append, List.length_cons, List.length_nil]; omega⟩, ?_⟩
      simp only [intOf]
      omega
    · have hae : a = b.size := by omega
      have hL0 : lnF (bl b) 0 = A := by rw [HA.out, lnF_end (bl b) a (by rw [HL.out]; omega), List.append_nil]
      have HZ := Lib.hid hL0
      clear hL0 HA
      go_wp2
      go_ret
      exact ⟨_, rfl, by rw [HZ.out]; exact HO.out, HB.out⟩
end Go.Proofs.YtjoechkdmdinoaaGreatDoor
namespace Go.Proofs.YtjoechkdmdinoaaGreatDoor
open Go.RowKit
set_option linter.unusedVariables false
set_option linter.unusedSimpArgs false
section
variable {P : Program} {ops : Array Oper} {o : Oper} {a : Act} {K : Act → World → Prop} {Q : Exit → Act → World → Prop} {E : Prop}
/-- append of some elements, as a step of a region that draws, in whatever world. -/
theorem step_pushY (hgd : o.guard = none) (s x : Operand) (t e : TypeId) (ho : o.op = .call { callee := .builtin .append, args := #[s, x], argTypes := #[t, t] }) (ht : P.underlying t = some (.slice e))
    (z : Value) (size bytes : Nat) (hi : (P.info? e).map (fun i => (i.zero, i.size, i.bytes)) = some (some z, size, bytes)) (hzs : z.cells.size = size) (hsz : 0 < size) (m : Nat)
    (X : World) (b B : Nat) (v : Value) (n : Nat) (cs : List Value) (hs : a.eval s = v) (hown : X.ownsRow B e size v n cs) (news : Array Value) (hnl : news.size = m * size) (h1 : ∀ u ∈ news.toList, u.oneCell' = true)
    (hnw : ∀ (j : Nat) u, news[j]? = some u → X.cell? ⟨b, j, none⟩ = some u)
    (hx : a.eval x = .slice (some ⟨b, 0, none⟩) m m) (hm : m ≤ 1000) (hlen : n < 70368744177664) (hby : (n + m) * bytes ≤ 140737488355328) (hB : B ≤ X.heap.size)
    (h : ∀ v' w', w'.ownsRow B e size v' (n + m) (cs ++ news.toList) → Below B X w' → K (a.put o.dst v') w') :
    if Region.wanted o (yielded ops a.tmps) = true then Oper.wp P o a X K Q else E := by
  have hw : Region.wanted o (yielded ops a.tmps) = true := by simp [Region.wanted, hgd]
  rw [if_pos hw]
  obtain ⟨i0, hi, hz0, hz1, hz2⟩ := info_parts hi
  have hnw' : ∀ j u, news.toList[j]? = some u → X.cell? ((⟨b, 0, none⟩ : Addr).add j) = some u := by
    intro j u hj
    have ea : (⟨b, 0, none⟩ : Addr).add j = ⟨b, j, none⟩ := by
      by_cases h0 : j = 0
      · subst h0; rfl
      · simp [Addr.add, h0]
    rw [ea]
    exact hnw j u (by simpa using hj)
  obtain ⟨v', w', hrun, r1, r2, _⟩ := run_append_own (P := P) X B t o.type e i0 z size bytes ht hi hz0 hz1 hz2 hzs hsz v n cs hown ⟨b, 0, none⟩ m m news.toList (by simp [hnl]) hnw' h1 (by unfold maxLen; omega) hby hB
  unfold Oper.wp
  simp [execOp, ho, resolve, invoke, builtin, hs, hx, hrun, Result.andThen]
  exact h v' w' r1 (orow_below hown r2 hB)
end
theorem infoLine22 : (Tryz.prog.info? 71).map (fun i => (i.zero, i.size, i.bytes)) = some (some (.agg #[.string ⟨#[]⟩, .string ⟨#[]⟩, .int .i64 0]), 3, 40) := by kernel_rfl
set_option maxRecDepth 100000 in
set_option maxHeartbeats 8000000 in
theorem rlines_any (b : ByteArray) (w : World) (hs : b.size ≤ 1000000) : Calls Tryz.prog 44 #[.string b] w fun e w' =>
    ∃ v, e = .returned v ∧ w'.ownsRow w.heap.size 71 3 v (lnF (bl b) 0).length (lcells b (lnF (bl b) 0)) ∧ Below w.heap.size w w' := by
  have HL : Hid ((bl b).length = b.size) := bl_length b
  go_enter Tryz.func44, Tryz.ntmps44
  go_wp2
  go_loopw [3, 4, 5] (fun v av iv wr => ∃ (p i : Nat) (A : List (Nat × Nat × Nat)), av = .int .i64 (p : Int) ∧ iv = .int .i64 (i : Int) ∧ p ≤ i ∧ i ≤ b.size ∧ Hid (nxE (bl b) p = nxE (bl b) i) ∧ Hid (lnF (bl b) 0 = A ++ lnF (bl b) p) ∧ Hid (wr.ownsRow w.heap.size 71 3 v A.length (lcells b A)) ∧ Hid (Below w.heap.size w wr) ∧ A.length ≤ p) (fun _ _ iv _ => b.size - (intOf iv).toNat)
  case atStart => exact ⟨0, 0, [], rfl, rfl, Nat.le_refl _, Nat.zero_le _, Lib.hid rfl, Lib.hid rfl, Lib.hid (World.ownsRow_nil _ _ _ _), Lib.hid (Below.refl _ _), Nat.le_refl _⟩
  case round =>
    obtain ⟨p, i, A, rfl, rfl, hpi, hib, HE0, HA, HO, HB, hAl⟩ := hrel
    by_cases hlt : i < b.size
    · obtain ⟨x, hx⟩ := at_some (bl b) i (by rw [HL.out]; exact hlt)
      have X : ∀ h, b[i]'h = x := atB_of b i x hx
      have hxl := x.toNat_lt
      have HX := Lib.hid hx
      clear hx
      cases hc : eolB x with
      | false =>
        have hn := nxE_step (bl b) i x HX.out hc
        rw [← HE0.out] at hn
        have g1 : ¬ (x.toNat : Int) = 10 := u8_neK x 10 (by decide) (by intro h; subst h; cases hc)
        have g2 : ¬ (x.toNat : Int) = 13 := u8_neK x 13 (by decide) (by intro h; subst h; cases hc)
        have g3 : ((x.toNat : Int) != 10) = true := by simpa using g1
        have g4 : ((x.toNat : Int) != 13) = true := by simpa using g2
        have E2 := Lib.hid hn
        clear hn hc g1 g2
        go_wp2
        go_roundw
        case rel => exact ⟨p, i + 1, A, rfl, by first | omega | go_num, by omega, by omega, E2, HA, HO, HB, hAl⟩
        case measure => simp [intOf]; omega
      | true =>
        have hE : nxE (bl b) p = i := by rw [HE0.out, nxE_stop (bl b) i x HX.out hc]
        have g : x = 10 ∨ x = 13 := by simpa [eolB] using hc
        clear hc
        have i1 : ((i : Int) + 1).toNat = i + 1 := by omega
        have i2 : ((i : Int) + 2).toNat = i + 2 := by omega
        rcases g with rfl | rfl
        · have hD : nxB (bl b) i = i + 1 := by
            unfold nxB
            rw [if_pos (by rw [HL.out]; exact hlt), if_neg (by rw [HX.out]; intro h; cases h.1)]
          have hcons := lnF_cons (bl b) p (by rw [HL.out]; omega)
          rw [hE, hD] at hcons
          have HA2 : Hid (lnF (bl b) 0 = (A ++ [(p, i, i + 1)]) ++ lnF (bl b) (i + 1)) := Lib.hid (by rw [HA.out, hcons, List.append_assoc]; rfl)
          have hsn := lcells_snoc b A (p, i, i + 1)
          obtain ⟨a1, c1, rfl⟩ := orow_form HO.out
          have hrl : w.heap.size ≤ wr.heap.size := HB.out.size
          have hn1 : A.length < 70368744177664 := by omega
          have hn2 : (A.length + 1) * 40 ≤ 140737488355328 := by omega
          have hZ := (bal (Below.refl wr.heap.size wr) (.cells #[.string (b.extract p i), .string (b.extract i (i + 1)), .int .i64 (p : Int)] 71)).drew
          have HOZ := Lib.hid (orow_bel HO.out hZ)
          have hZs := hZ.size
          have HZ := Lib.hid hZ
          have HSN := Lib.hid hsn
          clear hZ hsn hcons hE hD HA HE0
          go_wp2_with fail
          have q6 : IntKind.i64.wrap ((i : Int) + 1) = (i : Int) + 1 := wi64 _ (by omega) (by omega)
          have HZS := Lib.hid hZs
          have HN1 := Lib.hid hn1
          have HN2 := Lib.hid hn2
          clear hZs hn1 hn2
          have q4 : (i : Int) ≤ (i : Int) + 1 := by omega
          have q5 : (i : Int) + 1 ≤ (b.size : Int) := by omega
          have q7 : ((i : Int) + 1).toNat = i + 1 := by omega
          have q8 : (0 : Int) ≤ (i : Int) + 1 := by omega
          clear i1 i2
          go_region_held3 (fun _ => True) (first | trivial | go_keep)
            (first
              | (refine step_pushY rfl _ _ 68 71 rfl Tryz.underlying68 (.agg #[.string ⟨#[]⟩, .string ⟨#[]⟩, .int .i64 0]) 3 40 infoLine22 rfl (by decide) 1 _ wr.heap.size w.heap.size (.slice a1 A.length c1) A.length (lcells b A) rfl HOZ.out #[.string (b.extract p i), .string (b.extract i (i + 1)), .int .i64 (p : Int)] rfl (by simp [Value.oneCell']) (by intro j u hj; exact (World.cell?_alloc_new _ _ _ _).trans hj) rfl (by decide) HN1.out HN2.out (Nat.le_trans hrl HZS.out) ?_; intro v' w4 hown4 hb4))
          all_goals
            go_wp2_with fail
            refine ⟨⟨i + 1, i + 1, A ++ [(p, i, i + 1)], by go_num, by go_num, Nat.le_refl _, by omega, Lib.hid rfl, HA2, Lib.hid ?_, Lib.hid (HB.out.trans ((HZ.out.mono hrl).trans hb4)), by rw [List.length_append, List.length_cons, List.length_nil]; omega⟩, by simp [intOf]; omega⟩
            rw [HSN.out, List.length_append, List.length_cons, List.length_nil]
            exact hown4
        · by_cases h2 : i + 1 < b.size
          · obtain ⟨y, hy⟩ := at_some (bl b) (i + 1) (by rw [HL.out]; exact h2)
            have Y : ∀ h, b[i + 1]'h = y := atB_of b (i + 1) y hy
            have hyl := y.toNat_lt
            have h2' : (i : Int) + 1 < (b.size : Int) := by omega
            by_cases hy10 : y = 10
            · subst hy10
              have hD : nxB (bl b) i = i + 2 := by
                unfold nxB
                rw [if_pos (by rw [HL.out]; exact hlt), if_pos ⟨HX.out, hy⟩]
              clear hy
              have hcons := lnF_cons (bl b) p (by rw [HL.out]; omega)
              rw [hE, hD] at hcons
              have HA2 : Hid (lnF (bl b) 0 = (A ++ [(p, i, i + 2)]) ++ lnF (bl b) (i + 2)) := Lib.hid (by rw [HA.out, hcons, List.append_assoc]; rfl)
              have hsn := lcells_snoc b A (p, i, i + 2)
              obtain ⟨a1, c1, rfl⟩ := orow_form HO.out
              have hrl : w.heap.size ≤ wr.heap.size := HB.out.size
              have hn1 : A.length < 70368744177664 := by omega
              have hn2 : (A.length + 1) * 40 ≤ 140737488355328 := by omega
              have hZ := (bal (Below.refl wr.heap.size wr) (.cells #[.string (b.extract p i), .string (b.extract i (i + 2)), .int .i64 (p : Int)] 71)).drew
              have HOZ := Lib.hid (orow_bel HO.out hZ)
              have hZs := hZ.size
              have HZ := Lib.hid hZ
              have HSN := Lib.hid hsn
              clear hZ hsn hcons hE hD HA HE0
              go_wp2_with fail
              have q6 : IntKind.i64.wrap ((i : Int) + 2) = (i : Int) + 2 := wi64 _ (by omega) (by omega)
              have HZS := Lib.hid hZs
              have HN1 := Lib.hid hn1
              have HN2 := Lib.hid hn2
              clear hZs hn1 hn2
              have q4 : (i : Int) ≤ (i : Int) + 2 := by omega
              have q5 : (i : Int) + 2 ≤ (b.size : Int) := by omega
              have q7 : ((i : Int) + 2).toNat = i + 2 := by omega
              have q8 : (0 : Int) ≤ (i : Int) + 2 := by omega
              clear i1 i2
              go_region_held3 (fun _ => True) (first | trivial | go_keep)
                (first
                  | (refine step_pushY rfl _ _ 68 71 rfl Tryz.underlying68 (.agg #[.string ⟨#[]⟩, .string ⟨#[]⟩, .int .i64 0]) 3 40 infoLine22 rfl (by decide) 1 _ wr.heap.size w.heap.size (.slice a1 A.length c1) A.length (lcells b A) rfl HOZ.out #[.string (b.extract p i), .string (b.extract i (i + 2)), .int .i64 (p : Int)] rfl (by simp [Value.oneCell']) (by intro j u hj; exact (World.cell?_alloc_new _ _ _ _).trans hj) rfl (by decide) HN1.out HN2.out (Nat.le_trans hrl HZS.out) ?_; intro v' w4 hown4 hb4))
              all_goals
                go_wp2_with fail
                refine ⟨⟨i + 2, i + 2, A ++ [(p, i, i + 2)], by go_num, by go_num, Nat.le_refl _, by omega, Lib.hid rfl, HA2, Lib.hid ?_, Lib.hid (HB.out.trans ((HZ.out.mono hrl).trans hb4)), by rw [List.length_append, List.length_cons, List.length_nil]; omega⟩, by simp [intOf]; omega⟩
                rw [HSN.out, List.length_append, List.length_cons, List.length_nil]
                exact hown4
            · have hD : nxB (bl b) i = i + 1 := by
                unfold nxB
                rw [if_pos (by rw [HL.out]; exact hlt), if_neg (by rw [hy]; intro h; exact hy10 (Option.some.inj h.2))]
              have g3 : ((y.toNat : Int) == 10) = false := by rw [beq_eq_false_iff_ne]; exact u8_neK y 10 (by decide) hy10
              clear hy hy10
              have hcons := lnF_cons (bl b) p (by rw [HL.out]; omega)
              rw [hE, hD] at hcons
              have HA2 : Hid (lnF (bl b) 0 = (A ++ [(p, i, i + 1)]) ++ lnF (bl b) (i + 1)) := Lib.hid (by rw [HA.out, hcons, List.append_assoc]; rfl)
              have hsn := lcells_snoc b A (p, i, i + 1)
              obtain ⟨a1, c1, rfl⟩ := orow_form HO.out
              have hrl : w.heap.size ≤ wr.heap.size := HB.out.size
              have hn1 : A.length < 70368744177664 := by omega
              have hn2 : (A.length + 1) * 40 ≤ 140737488355328 := by omega
              have hZ := (bal (Below.refl wr.heap.size wr) (.cells #[.string (b.extract p i), .string (b.extract i (i + 1)), .int .i64 (p : Int)] 71)).drew
              have HOZ := Lib.hid (orow_bel HO.out hZ)
              have hZs := hZ.size
              have HZ := Lib.hid hZ
              have HSN := Lib.hid hsn
              clear hZ hsn hcons hE hD HA HE0
              go_wp2_with fail
              have q6 : IntKind.i64.wrap ((i : Int) + 1) = (i : Int) + 1 := wi64 _ (by omega) (by omega)
              have HZS := Lib.hid hZs
              have HN1 := Lib.hid hn1
              have HN2 := Lib.hid hn2
              clear hZs hn1 hn2
              have q4 : (i : Int) ≤ (i : Int) + 1 := by omega
              have q5 : (i : Int) + 1 ≤ (b.size : Int) := by omega
              have q7 : ((i : Int) + 1).toNat = i + 1 := by omega
              have q8 : (0 : Int) ≤ (i : Int) + 1 := by omega
              clear i1 i2
              go_region_held3 (fun _ => True) (first | trivial | go_keep)
                (first
                  | (refine step_pushY rfl _ _ 68 71 rfl Tryz.underlying68 (.agg #[.string ⟨#[]⟩, .string ⟨#[]⟩, .int .i64 0]) 3 40 infoLine22 rfl (by decide) 1 _ wr.heap.size w.heap.size (.slice a1 A.length c1) A.length (lcells b A) rfl HOZ.out #[.string (b.extract p i), .string (b.extract i (i + 1)), .int .i64 (p : Int)] rfl (by simp [Value.oneCell']) (by intro j u hj; exact (World.cell?_alloc_new _ _ _ _).trans hj) rfl (by decide) HN1.out HN2.out (Nat.le_trans hrl HZS.out) ?_; intro v' w4 hown4 hb4))
              all_goals
                go_wp2_with fail
                refine ⟨⟨i + 1, i + 1, A ++ [(p, i, i + 1)], by go_num, by go_num, Nat.le_refl _, by omega, Lib.hid rfl, HA2, Lib.hid ?_, Lib.hid (HB.out.trans ((HZ.out.mono hrl).trans hb4)), by rw [List.length_append, List.length_cons, List.length_nil]; omega⟩, by simp [intOf]; omega⟩
                rw [HSN.out, List.length_append, List.length_cons, List.length_nil]
                exact hown4
          · have hD : nxB (bl b) i = i + 1 := by
              unfold nxB
              rw [if_pos (by rw [HL.out]; exact hlt), if_neg (by rw [List.getElem?_eq_none (by rw [HL.out]; omega : (bl b).length ≤ i + 1)]; intro h; cases h.2)]
            have h2' : ¬ (i : Int) + 1 < (b.size : Int) := by omega
            have hcons := lnF_cons (bl b) p (by rw [HL.out]; omega)
            rw [hE, hD] at hcons
            have HA2 : Hid (lnF (bl b) 0 = (A ++ [(p, i, i + 1)]) ++ lnF (bl b) (i + 1)) := Lib.hid (by rw [HA.out, hcons, List.append_assoc]; rfl)
            have hsn := lcells_snoc b A (p, i, i + 1)
            obtain ⟨a1, c1, rfl⟩ := orow_form HO.out
            have hrl : w.heap.size ≤ wr.heap.size := HB.out.size
            have hn1 : A.length < 70368744177664 := by omega
            have hn2 : (A.length + 1) * 40 ≤ 140737488355328 := by omega
            have hZ := (bal (Below.refl wr.heap.size wr) (.cells #[.string (b.extract p i), .string (b.extract i (i + 1)), .int .i64 (p : Int)] 71)).drew
            have HOZ := Lib.hid (orow_bel HO.out hZ)
            have hZs := hZ.size
            have HZ := Lib.hid hZ
            have HSN := Lib.hid hsn
            clear hZ hsn hcons hE hD HA HE0
            go_wp2_with fail
            have q6 : IntKind.i64.wrap ((i : Int) + 1) = (i : Int) + 1 := wi64 _ (by omega) (by omega)
            have HZS := Lib.hid hZs
            have HN1 := Lib.hid hn1
            have HN2 := Lib.hid hn2
            clear hZs hn1 hn2
            have q4 : (i : Int) ≤ (i : Int) + 1 := by omega
            have q5 : (i : Int) + 1 ≤ (b.size : Int) := by omega
            have q7 : ((i : Int) + 1).toNat = i + 1 := by omega
            have q8 : (0 : Int) ≤ (i : Int) + 1 := by omega
            clear i1 i2
            go_region_held3 (fun _ => True) (first | trivial | go_keep)
              (first
                | (refine step_pushY rfl _ _ 68 71 rfl Tryz.underlying68 (.agg #[.string ⟨#[]⟩, .string ⟨#[]⟩, .int .i64 0]) 3 40 infoLine22 rfl (by decide) 1 _ wr.heap.size w.heap.size (.slice a1 A.length c1) A.length (lcells b A) rfl HOZ.out #[.string (b.extract p i), .string (b.extract i (i + 1)), .int .i64 (p : Int)] rfl (by simp [Value.oneCell']) (by intro j u hj; exact (World.cell?_alloc_new _ _ _ _).trans hj) rfl (by decide) HN1.out HN2.out (Nat.le_trans hrl HZS.out) ?_; intro v' w4 hown4 hb4))
            all_goals
              go_wp2_with fail
              refine ⟨⟨i + 1, i + 1, A ++ [(p, i, i + 1)], by go_num, by go_num, Nat.le_refl _, by omega, Lib.hid rfl, HA2, Lib.hid ?_, Lib.hid (HB.out.trans ((HZ.out.mono hrl).trans hb4)), by rw [List.length_append, List.length_cons, List.length_nil]; omega⟩, by simp [intOf]; omega⟩
              rw [HSN.out, List.length_append, List.length_cons, List.length_nil]
              exact hown4
    · have hie : i = b.size := by omega
      subst hie
      by_cases hp : p < b.size
      · have hE : nxE (bl b) p = b.size := by rw [HE0.out, ← HL.out, nxE_end]
        have hD : nxB (bl b) b.size = b.size := by unfold nxB; rw [if_neg (by rw [HL.out]; omega)]
        have hcons := lnF_cons (bl b) p (by rw [HL.out]; exact hp)
        rw [hE, hD, lnF_end (bl b) b.size (by rw [HL.out]; omega)] at hcons
        have hsn := lcells_snoc b A (p, b.size, b.size)
        simp only [show b.extract b.size b.size = ByteArray.empty from by simp] at hsn
        have hA2 : lnF (bl b) 0 = A ++ [(p, b.size, b.size)] := by rw [HA.out, hcons]
        obtain ⟨a1, c1, rfl⟩ := orow_form HO.out
        have hrl : w.heap.size ≤ wr.heap.size := HB.out.size
        have hn1 : A.length < 70368744177664 := by omega
        have hn2 : (A.length + 1) * 40 ≤ 140737488355328 := by omega
        have HSN := Lib.hid hsn
        have HA2 := Lib.hid hA2
        clear hsn hA2
        clear hE hD hcons HA HE0
        go_wp2_with (first
          | (at_builtin; go_loud (refine wpList_push1 rfl _ _ 68 71 rfl Tryz.underlying68 (.agg #[.string ⟨#[]⟩, .string ⟨#[]⟩, .int .i64 0]) 3 40 infoLine22 rfl (by decide) wr w.heap.size (.slice a1 A.length c1) A.length (lcells b A) rfl HO.out #[.string (b.extract p b.size), .string ByteArray.empty, .int .i64 (p : Int)] rfl (by simp [Value.oneCell']) rfl hn1 hn2 hrl ?_); go_loud (intro v' w6 hown6 hb6 hk6))
          | fail)
        go_ret
        exact ⟨_, rfl, by rw [HA2.out, HSN.out, List.length_append, List.length_cons, List.length_nil]; exact hown6, HB.out.trans hb6⟩
      · have hL0 : lnF (bl b) 0 = A := by rw [HA.out, lnF_end (bl b) p (by rw [HL.out]; omega), List.append_nil]
        have HZ := Lib.hid hL0
        clear hL0 HA
        go_wp2
        go_ret
        exact ⟨_, rfl, by rw [HZ.out]; exact HO.out, HB.out⟩
end Go.Proofs.YtjoechkdmdinoaaGreatDoor
