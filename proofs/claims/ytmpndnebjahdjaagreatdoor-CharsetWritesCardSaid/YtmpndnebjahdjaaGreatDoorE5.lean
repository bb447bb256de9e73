/- Walk: charset.encodeBig5. -/
import Derived.Test.YtmpndnebjahdjaaGreatDoorEn
import Derived.Test.YtmpndnebjahdjaaGreatDoorOct2
import Derived.Test.YtmpndnebjahdjaaGreatDoorBj
import Derived.Test.YtmpndnebjahdjaaGreatDoorPu
namespace Go.Proofs.YtmpndnebjahdjaaGreatDoor
open Go.RowKit
set_option linter.unusedVariables false
set_option linter.unusedSimpArgs false

theorem decodeN_four (n b0 b1 b2 b3 : Nat) : Lib.decodeN (min 4 n) b0 b1 b2 b3 = Lib.decodeN n b0 b1 b2 b3 := by
  have e1 : (1 < min 4 n) = (1 < n) := propext (by omega)
  have e2 : (2 < min 4 n) = (2 < n) := propext (by omega)
  have e3 : (3 < min 4 n) = (3 < n) := propext (by omega)
  unfold Lib.decodeN
  simp only [e1, e2, e3]
theorem dec_four (l : List UInt8) : dec (l.take 4) = dec l := by
  have g : ∀ i, i < 4 → (l.take 4).getD i 0 = l.getD i 0 := by
    intro i hi
    simp [List.getD, List.getElem?_take, hi]
  unfold dec
  rw [g 0 (by omega), g 1 (by omega), g 2 (by omega), g 3 (by omega), List.length_take, decodeN_four]
/-- the sign ahead; of nothing 65533, 0. -/
def dec0 (l : List UInt8) : Nat × Nat := if l = [] then (65533, 0) else dec l
theorem decodeStr_any (t : ByteArray) (l : List UInt8) (hl : bl t = l.take 4) (w : World) (hT : TW w) :
    Calls Tryz.prog 104 #[.string t] w fun e w' => e = .returned (.tuple #[.int .i32 (dec0 l).1, .int .i64 (dec0 l).2]) ∧ Below w.heap.size w w' := by
  have h := Tryz.utf8_DecodeRuneInString t w hT.u8
  have e : Lib.decodeGo t = dec0 l := by
    unfold dec0
    by_cases h0 : t.size = 0
    · have : l = [] := by
        have h1 := congrArg List.length hl
        rw [bl_length, h0, List.length_take] at h1
        exact List.eq_nil_of_length_eq_zero (by omega)
      rw [if_pos this]
      unfold Lib.decodeGo
      rw [if_pos h0]
    · rw [decodeGo_dec t h0, hl, dec_four, if_neg]
      rintro rfl
      have h1 := congrArg List.length hl
      rw [bl_length] at h1
      simp only [List.take_nil, List.length_nil] at h1
      omega
  rw [e] at h
  exact h
theorem peek_list (s : ByteArray) (n : Nat) (h : n ≤ s.size) : bl (s.extract n (min (n + 4) s.size)) = ((bl s).drop n).take 4 := by
  unfold bl
  rw [Lib.extract_data, List.take_eq_take_iff, List.length_drop]
  have hl : (s.data.toList).length = s.size := bl_length s
  omega
/-- the reader of Big5's text: one sign or two. -/
noncomputable def tok5 : Tok := fun l => if (dec l).1 < 128 then some ([UInt8.ofNat (dec l).1], (dec l).2) else
  let m := l.drop (dec l).2
  let r := bBytesM (if m = [] then [((dec l).1 : Int)] else [((dec l).1 : Int), ((dec m).1 : Int)])
  if r.2 = 0 then none else if r.2 = 2 then some (r.1, (dec l).2 + (dec0 m).2) else some (r.1, (dec l).2)
theorem tok5_eq (l : List UInt8) (p j : Nat) (h : dec l = (p, j)) : tok5 l = if p < 128 then some ([UInt8.ofNat p], j) else
    if (bBytesM (if l.drop j = [] then [(p : Int)] else [(p : Int), ((dec (l.drop j)).1 : Int)])).2 = 0 then none else
    if (bBytesM (if l.drop j = [] then [(p : Int)] else [(p : Int), ((dec (l.drop j)).1 : Int)])).2 = 2 then some ((bBytesM (if l.drop j = [] then [(p : Int)] else [(p : Int), ((dec (l.drop j)).1 : Int)])).1, j + (dec0 (l.drop j)).2)
    else some ((bBytesM (if l.drop j = [] then [(p : Int)] else [(p : Int), ((dec (l.drop j)).1 : Int)])).1, j) := by
  unfold tok5
  rw [h]
noncomputable def enc5 (l : List UInt8) : Value := match (scanL l).2 with
  | some k => .tuple #[.string ⟨#[]⟩, faultV (some k)]
  | none => .tuple #[.string ⟨(decT tok5 l).1.toArray⟩, faultE (decT tok5 l).2]
set_option maxRecDepth 100000 in
set_option maxHeartbeats 8000000 in
theorem encode5_bad (b : ByteArray) (w : World) (hT : TW w) (hb : b.size ≤ 1073741824) (num k : Nat) (hsc : scanL (bl b) = (num, some k)) :
    Calls Tryz.prog 45 #[.string b] w (EncPost (enc5 (bl b)) w) := by
  have k1 := fun w hT => check_any b w hT (by omega)
  have k2 := fun a b w => bad_any a b w
  have e0 : enc5 (bl b) = .tuple #[.string ⟨#[]⟩, .agg #[.int .i64 2, .int .i64 k]] := by unfold enc5; rw [hsc]; rfl
  rw [e0]
  rw [hsc] at k1
  simp only [faultV] at k1
  have hb0 := bal (Below.refl w.heap.size w) (.cells #[.int .i64 0, .int .i64 0] 25)
  have l0 := Live.fresh w #[.int .i64 0, .int .i64 0] 25 0 _ rfl
  have l1 := Live.fresh w #[.int .i64 0, .int .i64 0] 25 1 _ rfl
  have K1 := Lib.hid k1
  have K2 := Lib.hid k2
  have HB0 := Lib.hid hb0
  have L0 := Lib.hid l0
  have L1 := Lib.hid l1
  have HT := Lib.hid hT
  clear k1 k2 hb0 l0 l1 hT
  clear hsc e0
  go_enter Tryz.func45, Tryz.ntmps45
  go_wp2_with fail
  refine (K1.out _ (HT.out.bel HB0.out)).mono ?_
  rintro e w1 ⟨rfl, hb1⟩
  go_wp2_with (go_at_call 16; refine (K2.out _ _ _).mono ?_; rintro e w2 ⟨rfl, hb2⟩)
  have q0 := (Live.fresh w1 #[.int .i64 2, .int .i64 k] 25 0 _ rfl).keep hb2
  have q1 := (Live.fresh w1 #[.int .i64 2, .int .i64 k] 25 1 _ rfl).keep hb2
  have p0 := ((L0.out.keep hb1).alloc (.cells #[.int .i64 2, .int .i64 k] 25)).keep hb2
  have p1 := ((L1.out.keep hb1).alloc (.cells #[.int .i64 2, .int .i64 k] 25)).keep hb2
  have hbw : Below w.heap.size w w2 := HB0.out.trans ((bt (bal (bt (Below.refl _ _) hb1) _) hb2).mono HB0.out.size)
  clear hb1 hb2
  have g0 := fun x : Grown w2 => x.cell q0.1
  have g1 := fun x : Grown w2 => x.cell q1.1
  refine wp_region_grown_tail 2 (by kernel_rfl) (by kernel_rfl) ?_
  simp only [List.take_succ_cons, List.take_zero, List.drop_succ_cons, List.drop_zero]
  repeat (first | go_big_quiet_step (fail) | quiet_step (fail))
  refine wpQuiet_nil ?_
  intro _ hw'
  obtain ⟨xg, rfl⟩ := hw'
  obtain ⟨a1, a2⟩ := p0.keep xg.bel
  obtain ⟨a3, a4⟩ := p1.keep xg.bel
  have hbx := hbw.trans (xg.bel.mono hbw.size)
  clear g0 g1
  generalize xg.wd = W at *
  go_wp2_with fail
  refine bodyPost_ret (v := .tuple #[.string ⟨#[]⟩, .agg #[.int .i64 2, .int .i64 k]]) (by simp [results, Tryz.results45, go_sem, a1, a2, a3, a4]) rfl ?_
  exact (show EncPost _ _ _ _ from ⟨rfl, (hbx.setCell (Nat.le_refl _) _).setCell (Nat.le_refl _) _⟩)
/-- how a loop that reads stands. -/
structure St (W0 : World) (lo r : Nat) (b : ByteArray) (acc : List UInt8) (v : Value) (k : Nat) (w : World) : Prop where
  own : Own w W0.heap.size v acc
  inn : InC w r b (k : Nat) 0 0 0
  kp : ∀ j, j < lo → w.heap[j]? = W0.heap[j]?
  bel : Below lo W0 w
  lr : lo ≤ r
  rw : r < W0.heap.size
theorem St.step {W0 w w' : World} {lo r k : Nat} {b : ByteArray} {acc : List UInt8} {v : Value} (h : St W0 lo r b acc v k w) (hb : Below w.heap.size w w') : St W0 lo r b acc v k w' :=
  ⟨h.own.bel hb, h.inn.bel hb, fun j hj => (hb.block j (by have := h.bel.size; have := h.lr; have := h.rw; omega)).trans (h.kp j hj), h.bel.trans (hb.mono (by have := h.bel.size; have := h.lr; have := h.rw; omega)), h.lr, h.rw⟩
theorem St.take {W0 w w' : World} {lo r k k' : Nat} {b : ByteArray} {acc : List UInt8} {v : Value} (h : St W0 lo r b acc v k w) (hI : InC w' r b (k' : Nat) 0 0 0) (hg : w.grownBy w' (some r)) : St W0 lo r b acc v k' w' := by
  have h1 := h.bel.size
  have h2 := h.lr
  have h3 := h.rw
  refine ⟨orow_other h.own fun q hq => ?_, hI, fun j hj => (hg.block j (by omega) (fun e => by have := Option.some.inj e; omega)).trans (h.kp j hj), h.bel.grown hg (by omega) (by intro q hq; cases hq; exact h2), h2, h3⟩
  obtain ⟨y1, y2⟩ := h.own.blk q hq
  exact hg.block q y2 (fun e => by have := Option.some.inj e; omega)
theorem St.push {W0 w w' : World} {lo r k : Nat} {b : ByteArray} {acc acc' : List UInt8} {v v' : Value} (h : St W0 lo r b acc v k w) (ho : Own w' W0.heap.size v' acc') (hb : Below W0.heap.size w w') : St W0 lo r b acc' v' k w' := by
  have h2 := h.lr
  have h3 := h.rw
  exact ⟨ho, h.inn.blk (hb.block r h3), fun j hj => (hb.block j (by omega)).trans (h.kp j hj), h.bel.trans (hb.mono (by omega)), h2, h3⟩
def nxt (w : World) (r : Nat) : Nat := ((w.cell? ⟨r, 1, none⟩).map fun v => (intOf v).toNat).getD 0
theorem InC.nxt {w : World} {r : Nat} {s : ByteArray} {k : Nat} {b e a : Int} (h : InC w r s (k : Nat) b e a) : nxt w r = k := by
  unfold Go.Proofs.YtmpndnebjahdjaaGreatDoor.nxt
  rw [h.cells.2.1.1]
  simp [intOf]
theorem in_at0 (w : World) (r : Nat) (s : ByteArray) (n : Nat) (h : InC w r s n 0 0 0) (hk : n ≤ 1073741824) :
    Calls Tryz.prog 63 #[.pointer (some ⟨r, 0, none⟩)] w fun x w' => x = .returned (.int .i64 n) ∧ Below w.heap.size w w' := by
  have := in_at w r s n 0 0 0 h (by omega)
  simpa using this
theorem bbytes_cases (p : Int) (r : List Int) : ((bBytesM (p :: r)).2 = 0 ∨ (bBytesM (p :: r)).2 = 1 ∨ ((bBytesM (p :: r)).2 = 2 ∧ r ≠ [])) ∧ (bBytesM (p :: r)).1.length ≤ 2 := by
  have hf : ∀ (l : List (Int × Int × ByteArray)) (a : Int), ((bfindL l a).2 = 0 ∨ (bfindL l a).2 = 1) ∧ (bfindL l a).1.length ≤ 2 := by
    intro l
    induction l with
    | nil => intro a; simp [bfindL]
    | cons x l ih =>
      intro a
      unfold bfindL
      split
      · exact ⟨.inr rfl, by rw [bigL_length]; exact Nat.le_refl _⟩
      · exact ih a
  have ht : ∀ (l : List (Int × Int × Int)) (a c : Int), btwoL l a none ≠ some c := by
    intro l
    induction l with
    | nil => intro a c; simp [btwoL]
    | cons x l ih => intro a c; unfold btwoL; simp; exact ih a c
  have e : bBytesM (p :: r) = match btwoL bTwos p r.head? with
      | some c => (bigL (136 * 256 + c) 2, 2)
      | none => bfindL bSpans p := rfl
  rw [e]
  cases hq : btwoL bTwos p r.head? with
  | some c =>
    simp only
    refine ⟨.inr (.inr ⟨by trivial, ?_⟩), by rw [bigL_length]; exact Nat.le_refl _⟩
    rintro rfl
    exact ht _ _ _ hq
  | none =>
    simp only
    obtain ⟨h1, h2⟩ := hf bSpans p
    refine ⟨?_, h2⟩
    rcases h1 with h | h
    · exact .inl h
    · exact .inr (.inl h)
set_option maxRecDepth 100000 in
set_option maxHeartbeats 8000000 in
theorem encode5_good (b : ByteArray) (w : World) (hT : TW w) (hb : b.size ≤ 1048576) (num : Nat) (hsc : scanL (bl b) = (num, none)) :
    Calls Tryz.prog 45 #[.string b] w (EncPost (enc5 (bl b)) w) := by
  have k1 := fun w hT => check_any b w hT (by omega)
  have k2 := fun a b w => bad_any a b w
  have e0 : enc5 (bl b) = .tuple #[.string ⟨(decT tok5 (bl b)).1.toArray⟩, faultE (decT tok5 (bl b)).2] := by unfold enc5; rw [hsc]
  rw [e0]
  rw [hsc] at k1
  simp only [faultV] at k1
  obtain ⟨D, hD⟩ : ∃ D, D = decT tok5 (bl b) := ⟨_, rfl⟩
  rw [← hD]
  have hb0 := bal (Below.refl w.heap.size w) (.cells #[.int .i64 0, .int .i64 0] 25)
  have l0 := Live.fresh w #[.int .i64 0, .int .i64 0] 25 0 _ rfl
  have l1 := Live.fresh w #[.int .i64 0, .int .i64 0] 25 1 _ rfl
  have K1 := Lib.hid k1
  have K2 := Lib.hid k2
  have HB0 := Lib.hid hb0
  have L0 := Lib.hid l0
  have L1 := Lib.hid l1
  have HT := Lib.hid hT
  have HD := Lib.hid hD
  clear k1 k2 hb0 l0 l1 hT hD
  clear hsc e0
  have HBL : Hid ((bl b).length = b.size) := bl_length b
  go_enter Tryz.func45, Tryz.ntmps45
  go_wp2_with fail
  refine (K1.out _ (HT.out.bel HB0.out)).mono ?_
  rintro e w1 ⟨rfl, hb1⟩
  go_wp2_with (first
    | (go_at_call 16; refine (K2.out _ _ _).mono ?_; rintro e w2 ⟨rfl, hb2⟩)
    | (go_at_call 24; refine (read_any _ _).mono ?_; rintro e W0 ⟨r, rfl, hr, hI0, hb3⟩))
  have hbw : Below w.heap.size w w2 := HB0.out.trans ((bt (bal (bt (Below.refl _ _) hb1) _) hb2).mono HB0.out.size)
  have p0 := ((L0.out.keep hb1).alloc (.cells #[.int .i64 0, .int .i64 0] 25)).keep hb2
  have p1 := ((L1.out.keep hb1).alloc (.cells #[.int .i64 0, .int .i64 0] 25)).keep hb2
  have hr0 := p0.keep hb3
  have hr1 := p1.keep hb3
  have hbw0 := bt hbw hb3
  have hlw := p0.lt
  have hrW := hI0.lt
  have R0 := Lib.hid hr0
  have R1 := Lib.hid hr1
  have HBW0 := Lib.hid hbw0
  clear hr0 hr1 hbw0
  clear hb1 hb2 hb3 p0 p1
  have hsz2 : w.heap.size ≤ w2.heap.size := by omega
  have hTW : ∀ wX, Below w2.heap.size W0 wX → TW wX := fun wX h => HT.out.bel (HBW0.out.trans (h.mono hsz2))
  have S0lo : ∀ {acc : List UInt8} {v : Value} {k : Nat} {wX : World}, St W0 w2.heap.size r b acc v k wX → W0.heap.size ≤ wX.heap.size := fun h => h.bel.size
  have hz : ∀ (w' : World), (∀ j, j < w2.heap.size → w'.heap[j]? = W0.heap[j]?) → Live w' w.heap.size 0 (.int .i64 0) ∧ Live w' w.heap.size 1 (.int .i64 0) := fun w' h =>
      ⟨R0.out.blk (h _ hlw), R1.out.blk (h _ hlw)⟩
  have HTW := Lib.hid hTW
  have HZ := Lib.hid hz
  clear hTW hz
  go_loopw [5] (fun v wr => ∃ (f k : Nat) (acc : List UInt8), Hid (Own wr W0.heap.size v acc) ∧ InC wr r b (k : Nat) 0 0 0 ∧ k ≤ b.size ∧ acc.length ≤ 1024 * k ∧ b.size - k ≤ f ∧ Hid (runT tok5 f ((bl b).drop k) k acc = D) ∧
      Hid (∀ j, j < w2.heap.size → wr.heap[j]? = W0.heap[j]?) ∧ Below w2.heap.size W0 wr) (fun _ wr => b.size - nxt wr r)
  case atStart => exact ⟨b.size, 0, [], Lib.hid (Own.nil _ _), hI0, Nat.zero_le _, by simp, by omega, by have := HD.out; unfold decT at this; rw [HBL.out] at this; rw [List.drop_zero]; exact Lib.hid this.symm, Lib.hid (fun _ _ => rfl), Below.refl _ _⟩
  case round =>
    obtain ⟨f, k, acc, hown, hI, hk, hacc, hf, hRT, hkp, hbel⟩ := hrel
    have hpos := hI.nxt
    have S : St W0 w2.heap.size r b acc _ k wr := ⟨hown.out, hI, hkp.out, hbel, hr, hrW⟩
    have HPOS := Lib.hid hpos
    clear hpos
    by_cases hlt : k < b.size
    · obtain ⟨f, rfl⟩ : ∃ g, f = g + 1 := ⟨f - 1, by omega⟩
      rcases hd : dec ((bl b).drop k) with ⟨p, j⟩
      have hdp := dec_pos ((bl b).drop k)
      have hdr := dec_rune ((bl b).drop k)
      have hne2 : (bl b).drop k ≠ [] := drop_ne (by rw [HBL.out]; exact hlt)
      have hdl := dec_le _ hne2
      rw [List.length_drop, HBL.out] at hdl
      rw [hd] at hdp hdr hdl
      simp only at hdp hdr hdl
      have hleft : ((b.size : Int) - k > 0) := by omega
      have D1 := Lib.hid (fun w hT => decodeStr_any (b.extract k (min (k + 4) b.size)) ((bl b).drop k) (peek_list b k hk) w hT)
      rw [show dec0 ((bl b).drop k) = (p, j) by unfold dec0; rw [if_neg hne2, hd]] at D1
      have htk := tok5_eq ((bl b).drop k) p j hd
      rw [List.drop_drop] at htk
      by_cases hp : p < 128
      · rw [if_pos hp] at htk
        have e1 := runT_some (tok := tok5) f _ k acc _ _ hne2 htk
        rw [hRT.out, List.drop_drop] at e1
        have hwrap : IntKind.u8.wrap (p : Int) = (p : Int) := wraps_u8 _ (by omega) (by omega)
        have hcu : (UInt8.ofNat p).toNat = p := by rw [UInt8.toNat_ofNat']; omega
        have E1 := Lib.hid e1
        have HCU := Lib.hid hcu
        clear e1 hcu
        clear htk hne2 hRT hd
        go_wp2_with (first
          | (go_at_call 68; refine (in_left _ r b k 0 0 S.inn hk (by omega)).mono ?_; rintro e wa ⟨rfl, hba⟩; have S := S.step hba)
          | (go_at_call 63; refine (in_at0 _ r b k S.inn (by omega)).mono ?_; rintro e wa ⟨rfl, hba⟩; have S := S.step hba)
          | (go_at_call 105; refine (in_peek _ r b k 0 0 4 S.inn hk (by omega) (by omega)).mono ?_; rintro e wa ⟨rfl, hba⟩; have S := S.step hba)
          | (go_at_call 104; refine (D1.out _ (HTW.out _ S.bel)).mono ?_; rintro e wa ⟨rfl, hba⟩; have S := S.step hba)
          | (go_at_call 78; refine (in_take _ r b k 0 0 j S.inn (by omega) (by omega)).mono ?_; rintro e wa ⟨rfl, hIa, hga⟩; have S := S.take hIa hga)
          | (at_builtin; go_loud (refine wpList_push1 rfl _ _ 150 5 rfl Tryz.underlying150 (.int .u8 0) 1 1 infoByte rfl (by decide) wa W0.heap.size u5 acc.length (bcells acc) rfl S.own #[.int .u8 (p : Int)] rfl (by simp [Value.oneCell']) rfl (by omega) (by omega) (S0lo S) ?_; intro v' w4 hown4 hb4 hk4)))
        have hown5 : Own w4 W0.heap.size v' (acc ++ [UInt8.ofNat p]) := by
          unfold Own
          rw [bcells_append, List.length_append, show bcells [UInt8.ofNat p] = [.int .u8 (p : Int)] by simp only [bcells, List.map_cons, List.map_nil, HCU.out]]
          exact hown4
        have S9 := S.push hown5 hb4
        exact ⟨⟨f, k + j, acc ++ [UInt8.ofNat p], Lib.hid S9.own, S9.inn, by omega, by rw [List.length_append]; simp; omega, by omega, Lib.hid E1.out.symm, Lib.hid S9.kp, S9.bel⟩, by show _ - nxt _ r < _ - nxt _ r; rw [HPOS.out, S9.inn.nxt]; omega⟩
      · rw [if_neg hp] at htk
        have hdr2 : Hid (dec0 ((bl b).drop (k + j)) = dec0 ((bl b).drop (k + j))) := rfl
        have D2 := Lib.hid (fun w hT => decodeStr_any (b.extract (k + j) (min (k + j + 4) b.size)) ((bl b).drop (k + j)) (peek_list b (k + j) (by omega)) w hT)
        have hpI : ¬ (p : Int) < 128 := by omega
        by_cases hm : (bl b).drop (k + j) = []
        · rw [if_pos hm, show (dec0 ((bl b).drop (k + j))).2 = 0 by unfold dec0; rw [if_pos hm]] at htk
          rw [show dec0 ((bl b).drop (k + j)) = (65533, 0) by unfold dec0; rw [if_pos hm]] at D2
          obtain ⟨hbc, hbl2⟩ := bbytes_cases (p : Int) []
          have ky := fun w v hT hrow => bbytes_any v [(p : Int)] w hT hrow (by simp) (by intro x hx; simp only [List.mem_singleton] at hx; omega)
          rcases hR : bBytesM [(p : Int)] with ⟨t, n⟩
          rw [hR] at ky hbc hbl2 htk
          simp only at ky hbc hbl2 htk
          obtain ⟨tb, htb⟩ : ∃ tb : ByteArray, tb = ⟨t.toArray⟩ := ⟨_, rfl⟩
          have hbt : bl tb = t := by rw [htb]
          have htl : tb.size ≤ 2 := by rw [← bl_length, hbt]; exact hbl2
          rw [← hbt] at htk
          rw [← htb] at ky
          clear hbt htb hR hbl2
          have KY := Lib.hid ky
          clear ky
          rcases hbc with rfl | rfl | ⟨_, h⟩
          · skip
            rw [if_pos rfl] at htk
            have e1 := runT_none (tok := tok5) f _ k acc hne2 htk
            rw [hRT.out] at e1
            have E1 := Lib.hid e1
            clear e1
            clear htk hne2 hRT hd hm
            go_wp2_with (first
              | (go_at_call 68; refine (in_left _ r b k 0 0 S.inn hk (by omega)).mono ?_; rintro e wa ⟨rfl, hba⟩; have S := S.step hba)
              | (go_at_call 63; refine (in_at0 _ r b k S.inn (by omega)).mono ?_; rintro e wa ⟨rfl, hba⟩; have S := S.step hba)
              | (go_at_call 105; refine (in_peek _ r b k 0 0 4 S.inn hk (by omega) (by omega)).mono ?_; rintro e wa ⟨rfl, hba⟩; have S := S.step hba)
              | (go_at_call 104; refine (D1.out _ (HTW.out _ S.bel)).mono ?_; rintro e wa ⟨rfl, hba⟩; have S := S.step hba)
              | (go_at_call 78; refine (in_take _ r b k 0 0 j S.inn (by omega) (by omega)).mono ?_; rintro e wa ⟨rfl, hIa, hga⟩; have S := S.take hIa hga))
            have S0 := S
            have hc := bal (Below.refl wa.heap.size wa) (.cells #[.int .i32 (p : Int)] 21)
            have hL : (wa.alloc (.cells #[.int .i32 (p : Int)] 21)).ownsRow wa.heap.size 21 1 (.slice (some ⟨wa.heap.size, 0, none⟩) 1 1) 1 (icells [(p : Int)]) := World.ownsRow_lit (size := 1) (base := wa.heap.size) wa #[.int .i32 (p : Int)] 1 (Nat.le_refl _) (by unfold maxLen; omega) rfl
            go_wp2_with (first
              | (go_at_call 105; refine (in_peek _ r b (k + j) 0 0 4 (S0.step hc).inn (by omega) (by omega) (by omega)).mono ?_; rintro e wy ⟨rfl, hby⟩; have hc := bt hc hby; have hL := orow_bel hL hby)
              | (go_at_call 104; refine (D2.out _ (HTW.out _ (S0.step hc).bel)).mono ?_; rintro e wy ⟨rfl, hby⟩; have hc := bt hc hby; have hL := orow_bel hL hby)
              | (go_at_call 106; refine (KY.out _ _ (HTW.out _ (S0.step hc).bel) (row_owns hL)).mono ?_; rintro e wb ⟨rfl, hbb⟩; have hc := bt hc hbb; obtain ⟨⟨a1, a2⟩, ⟨a3, a4⟩⟩ := HZ.out _ (S0.step hc).kp))
            refine bodyPost_ret (v := .tuple #[.string ⟨#[]⟩, .agg #[.int .i64 6, .int .i64 k]]) (by simp [results, Tryz.results45, go_sem, a1, a2, a3, a4]) rfl ?_
            refine (show EncPost _ _ _ _ from ⟨?_, ?_⟩)
            · rw [E1.out]; rfl
            · exact ((HBW0.out.trans ((S0.step hc).bel.mono hsz2)).setCell (Nat.le_refl _) _).setCell (Nat.le_refl _) _
          · skip
            rw [if_neg (by decide), if_neg (by decide)] at htk
            have e1 := runT_some (tok := tok5) f _ k acc _ _ hne2 htk
            rw [hRT.out, List.drop_drop] at e1
            have E1 := Lib.hid e1
            clear e1
            clear htk hne2 hRT hd hm
            go_wp2_with (first
              | (go_at_call 68; refine (in_left _ r b k 0 0 S.inn hk (by omega)).mono ?_; rintro e wa ⟨rfl, hba⟩; have S := S.step hba)
              | (go_at_call 63; refine (in_at0 _ r b k S.inn (by omega)).mono ?_; rintro e wa ⟨rfl, hba⟩; have S := S.step hba)
              | (go_at_call 105; refine (in_peek _ r b k 0 0 4 S.inn hk (by omega) (by omega)).mono ?_; rintro e wa ⟨rfl, hba⟩; have S := S.step hba)
              | (go_at_call 104; refine (D1.out _ (HTW.out _ S.bel)).mono ?_; rintro e wa ⟨rfl, hba⟩; have S := S.step hba)
              | (go_at_call 78; refine (in_take _ r b k 0 0 j S.inn (by omega) (by omega)).mono ?_; rintro e wa ⟨rfl, hIa, hga⟩; have S := S.take hIa hga))
            have S0 := S
            have hc := bal (Below.refl wa.heap.size wa) (.cells #[.int .i32 (p : Int)] 21)
            have hL : (wa.alloc (.cells #[.int .i32 (p : Int)] 21)).ownsRow wa.heap.size 21 1 (.slice (some ⟨wa.heap.size, 0, none⟩) 1 1) 1 (icells [(p : Int)]) := World.ownsRow_lit (size := 1) (base := wa.heap.size) wa #[.int .i32 (p : Int)] 1 (Nat.le_refl _) (by unfold maxLen; omega) rfl
            go_wp2_with (first
              | (go_at_call 105; refine (in_peek _ r b (k + j) 0 0 4 (S0.step hc).inn (by omega) (by omega) (by omega)).mono ?_; rintro e wy ⟨rfl, hby⟩; have hc := bt hc hby; have hL := orow_bel hL hby)
              | (go_at_call 104; refine (D2.out _ (HTW.out _ (S0.step hc).bel)).mono ?_; rintro e wy ⟨rfl, hby⟩; have hc := bt hc hby; have hL := orow_bel hL hby)
              | (go_at_call 106; refine (KY.out _ _ (HTW.out _ (S0.step hc).bel) (row_owns hL)).mono ?_; rintro e wb ⟨rfl, hbb⟩; have hc := bt hc hbb)
              | (at_builtin; refine wpList_pushS rfl _ _ rfl wb W0.heap.size u5 acc tb rfl (S0.step hc).own rfl (by omega) (S0lo (S0.step hc)) ?_; intro v' w7 hown7 hb7; have S9 := (S0.step hc).push hown7 hb7))
            exact ⟨⟨f, k + j, acc ++ bl tb, Lib.hid S9.own, S9.inn, by omega, by rw [List.length_append, bl_length]; omega, by omega, Lib.hid E1.out.symm, Lib.hid S9.kp, S9.bel⟩, by show _ - nxt _ r < _ - nxt _ r; rw [HPOS.out, S9.inn.nxt]; omega⟩
          · exact absurd rfl h
        · rcases hd3 : dec ((bl b).drop (k + j)) with ⟨q, jq⟩
          have hdq := dec_pos ((bl b).drop (k + j))
          have hdrq := dec_rune ((bl b).drop (k + j))
          have hdlq := dec_le _ hm
          rw [List.length_drop, HBL.out] at hdlq
          rw [hd3] at hdq hdrq hdlq
          simp only at hdq hdrq hdlq
          rw [if_neg hm, hd3, show (dec0 ((bl b).drop (k + j))).2 = jq by unfold dec0; rw [if_neg hm, hd3]] at htk
          rw [show dec0 ((bl b).drop (k + j)) = (q, jq) by unfold dec0; rw [if_neg hm, hd3]] at D2
          have hmore : (jq : Int) > 0 := by omega
          obtain ⟨hbc, hbl2⟩ := bbytes_cases (p : Int) [(q : Int)]
          have ky := fun w v hT hrow => bbytes_any v [(p : Int), (q : Int)] w hT hrow (by simp) (by intro x hx; simp only [List.mem_cons, List.mem_nil_iff, or_false] at hx; omega)
          rcases hR : bBytesM [(p : Int), (q : Int)] with ⟨t, n⟩
          rw [hR] at ky hbc hbl2 htk
          simp only at ky hbc hbl2 htk
          obtain ⟨tb, htb⟩ : ∃ tb : ByteArray, tb = ⟨t.toArray⟩ := ⟨_, rfl⟩
          have hbt : bl tb = t := by rw [htb]
          have htl : tb.size ≤ 2 := by rw [← bl_length, hbt]; exact hbl2
          rw [← hbt] at htk
          rw [← htb] at ky
          clear hbt htb hR hbl2 hd3
          have KY := Lib.hid ky
          clear ky
          rcases hbc with rfl | rfl | ⟨rfl, _⟩
          · skip
            rw [if_pos rfl] at htk
            have e1 := runT_none (tok := tok5) f _ k acc hne2 htk
            rw [hRT.out] at e1
            have E1 := Lib.hid e1
            clear e1
            clear htk hne2 hRT hd hm
            go_wp2_with (first
              | (go_at_call 68; refine (in_left _ r b k 0 0 S.inn hk (by omega)).mono ?_; rintro e wa ⟨rfl, hba⟩; have S := S.step hba)
              | (go_at_call 63; refine (in_at0 _ r b k S.inn (by omega)).mono ?_; rintro e wa ⟨rfl, hba⟩; have S := S.step hba)
              | (go_at_call 105; refine (in_peek _ r b k 0 0 4 S.inn hk (by omega) (by omega)).mono ?_; rintro e wa ⟨rfl, hba⟩; have S := S.step hba)
              | (go_at_call 104; refine (D1.out _ (HTW.out _ S.bel)).mono ?_; rintro e wa ⟨rfl, hba⟩; have S := S.step hba)
              | (go_at_call 78; refine (in_take _ r b k 0 0 j S.inn (by omega) (by omega)).mono ?_; rintro e wa ⟨rfl, hIa, hga⟩; have S := S.take hIa hga))
            have S0 := S
            have hc := bal (Below.refl wa.heap.size wa) (.cells #[.int .i32 (p : Int)] 21)
            have hL : (wa.alloc (.cells #[.int .i32 (p : Int)] 21)).ownsRow wa.heap.size 21 1 (.slice (some ⟨wa.heap.size, 0, none⟩) 1 1) 1 (icells [(p : Int)]) := World.ownsRow_lit (size := 1) (base := wa.heap.size) wa #[.int .i32 (p : Int)] 1 (Nat.le_refl _) (by unfold maxLen; omega) rfl
            go_wp2_with (first
              | (go_at_call 105; refine (in_peek _ r b (k + j) 0 0 4 (S0.step hc).inn (by omega) (by omega) (by omega)).mono ?_; rintro e wy ⟨rfl, hby⟩; have hc := bt hc hby; have hL := orow_bel hL hby)
              | (go_at_call 104; refine (D2.out _ (HTW.out _ (S0.step hc).bel)).mono ?_; rintro e wy ⟨rfl, hby⟩; have hc := bt hc hby; have hL := orow_bel hL hby)
              | (go_at_call 106; refine (KY.out _ _ (HTW.out _ (S0.step hc).bel) (row_owns hL)).mono ?_; rintro e wb ⟨rfl, hbb⟩; have hc := bt hc hbb; obtain ⟨⟨a1, a2⟩, ⟨a3, a4⟩⟩ := HZ.out _ (S0.step hc).kp)
              | (at_builtin; go_loud (refine wpList_push1 rfl _ _ 98 21 rfl Tryz.underlying98 (.int .i32 0) 1 4 infoRune rfl (by decide) wy wa.heap.size (.slice (some ⟨wa.heap.size, 0, none⟩) 1 1) 1 (icells [(p : Int)]) rfl hL #[.int .i32 (q : Int)] rfl (by simp [Value.oneCell']) rfl (by omega) (by omega) hc.size ?_; intro v2 wy hL hbq hkq; have hc := hc.trans hbq)))
            refine bodyPost_ret (v := .tuple #[.string ⟨#[]⟩, .agg #[.int .i64 6, .int .i64 k]]) (by simp [results, Tryz.results45, go_sem, a1, a2, a3, a4]) rfl ?_
            refine (show EncPost _ _ _ _ from ⟨?_, ?_⟩)
            · rw [E1.out]; rfl
            · exact ((HBW0.out.trans ((S0.step hc).bel.mono hsz2)).setCell (Nat.le_refl _) _).setCell (Nat.le_refl _) _
          · skip
            rw [if_neg (by decide), if_neg (by decide)] at htk
            have e1 := runT_some (tok := tok5) f _ k acc _ _ hne2 htk
            rw [hRT.out, List.drop_drop] at e1
            have E1 := Lib.hid e1
            clear e1
            clear htk hne2 hRT hd hm
            go_wp2_with (first
              | (go_at_call 68; refine (in_left _ r b k 0 0 S.inn hk (by omega)).mono ?_; rintro e wa ⟨rfl, hba⟩; have S := S.step hba)
              | (go_at_call 63; refine (in_at0 _ r b k S.inn (by omega)).mono ?_; rintro e wa ⟨rfl, hba⟩; have S := S.step hba)
              | (go_at_call 105; refine (in_peek _ r b k 0 0 4 S.inn hk (by omega) (by omega)).mono ?_; rintro e wa ⟨rfl, hba⟩; have S := S.step hba)
              | (go_at_call 104; refine (D1.out _ (HTW.out _ S.bel)).mono ?_; rintro e wa ⟨rfl, hba⟩; have S := S.step hba)
              | (go_at_call 78; refine (in_take _ r b k 0 0 j S.inn (by omega) (by omega)).mono ?_; rintro e wa ⟨rfl, hIa, hga⟩; have S := S.take hIa hga))
            have S0 := S
            have hc := bal (Below.refl wa.heap.size wa) (.cells #[.int .i32 (p : Int)] 21)
            have hL : (wa.alloc (.cells #[.int .i32 (p : Int)] 21)).ownsRow wa.heap.size 21 1 (.slice (some ⟨wa.heap.size, 0, none⟩) 1 1) 1 (icells [(p : Int)]) := World.ownsRow_lit (size := 1) (base := wa.heap.size) wa #[.int .i32 (p : Int)] 1 (Nat.le_refl _) (by unfold maxLen; omega) rfl
            go_wp2_with (first
              | (go_at_call 105; refine (in_peek _ r b (k + j) 0 0 4 (S0.step hc).inn (by omega) (by omega) (by omega)).mono ?_; rintro e wy ⟨rfl, hby⟩; have hc := bt hc hby; have hL := orow_bel hL hby)
              | (go_at_call 104; refine (D2.out _ (HTW.out _ (S0.step hc).bel)).mono ?_; rintro e wy ⟨rfl, hby⟩; have hc := bt hc hby; have hL := orow_bel hL hby)
              | (go_at_call 106; refine (KY.out _ _ (HTW.out _ (S0.step hc).bel) (row_owns hL)).mono ?_; rintro e wb ⟨rfl, hbb⟩; have hc := bt hc hbb)
              | (at_builtin; refine wpList_pushS rfl _ _ rfl wb W0.heap.size u5 acc tb rfl (S0.step hc).own rfl (by omega) (S0lo (S0.step hc)) ?_; intro v' w7 hown7 hb7; have S9 := (S0.step hc).push hown7 hb7)
              | (at_builtin; go_loud (refine wpList_push1 rfl _ _ 98 21 rfl Tryz.underlying98 (.int .i32 0) 1 4 infoRune rfl (by decide) wy wa.heap.size (.slice (some ⟨wa.heap.size, 0, none⟩) 1 1) 1 (icells [(p : Int)]) rfl hL #[.int .i32 (q : Int)] rfl (by simp [Value.oneCell']) rfl (by omega) (by omega) hc.size ?_; intro v2 wy hL hbq hkq; have hc := hc.trans hbq)))
            exact ⟨⟨f, k + j, acc ++ bl tb, Lib.hid S9.own, S9.inn, by omega, by rw [List.length_append, bl_length]; omega, by omega, Lib.hid E1.out.symm, Lib.hid S9.kp, S9.bel⟩, by show _ - nxt _ r < _ - nxt _ r; rw [HPOS.out, S9.inn.nxt]; omega⟩
          · skip
            rw [if_neg (by decide), if_pos rfl] at htk
            have e1 := runT_some (tok := tok5) f _ k acc _ _ hne2 htk
            rw [hRT.out, List.drop_drop] at e1
            have E1 := Lib.hid e1
            clear e1
            clear htk hne2 hRT hd hm
            go_wp2_with (first
              | (go_at_call 68; refine (in_left _ r b k 0 0 S.inn hk (by omega)).mono ?_; rintro e wa ⟨rfl, hba⟩; have S := S.step hba)
              | (go_at_call 63; refine (in_at0 _ r b k S.inn (by omega)).mono ?_; rintro e wa ⟨rfl, hba⟩; have S := S.step hba)
              | (go_at_call 105; refine (in_peek _ r b k 0 0 4 S.inn hk (by omega) (by omega)).mono ?_; rintro e wa ⟨rfl, hba⟩; have S := S.step hba)
              | (go_at_call 104; refine (D1.out _ (HTW.out _ S.bel)).mono ?_; rintro e wa ⟨rfl, hba⟩; have S := S.step hba)
              | (go_at_call 78; refine (in_take _ r b k 0 0 j S.inn (by omega) (by omega)).mono ?_; rintro e wa ⟨rfl, hIa, hga⟩; have S := S.take hIa hga))
            have S0 := S
            have hc := bal (Below.refl wa.heap.size wa) (.cells #[.int .i32 (p : Int)] 21)
            have hL : (wa.alloc (.cells #[.int .i32 (p : Int)] 21)).ownsRow wa.heap.size 21 1 (.slice (some ⟨wa.heap.size, 0, none⟩) 1 1) 1 (icells [(p : Int)]) := World.ownsRow_lit (size := 1) (base := wa.heap.size) wa #[.int .i32 (p : Int)] 1 (Nat.le_refl _) (by unfold maxLen; omega) rfl
            go_wp2_with (first
              | (go_at_call 105; refine (in_peek _ r b (k + j) 0 0 4 (S0.step hc).inn (by omega) (by omega) (by omega)).mono ?_; rintro e wy ⟨rfl, hby⟩; have hc := bt hc hby; have hL := orow_bel hL hby)
              | (go_at_call 104; refine (D2.out _ (HTW.out _ (S0.step hc).bel)).mono ?_; rintro e wy ⟨rfl, hby⟩; have hc := bt hc hby; have hL := orow_bel hL hby)
              | (go_at_call 106; refine (KY.out _ _ (HTW.out _ (S0.step hc).bel) (row_owns hL)).mono ?_; rintro e wb ⟨rfl, hbb⟩; have hc := bt hc hbb)
              | (go_at_call 78; refine (in_take _ r b (k + j) 0 0 jq (S0.step hc).inn (by omega) (by omega)).mono ?_; rintro e wt ⟨rfl, hIt, hgt⟩; have S1 := (S0.step hc).take hIt hgt)
              | (at_builtin; refine wpList_pushS rfl _ _ rfl wt W0.heap.size u5 acc tb rfl S1.own rfl (by omega) (S0lo S1) ?_; intro v' w7 hown7 hb7; have S9 := S1.push hown7 hb7)
              | (at_builtin; go_loud (refine wpList_push1 rfl _ _ 98 21 rfl Tryz.underlying98 (.int .i32 0) 1 4 infoRune rfl (by decide) wy wa.heap.size (.slice (some ⟨wa.heap.size, 0, none⟩) 1 1) 1 (icells [(p : Int)]) rfl hL #[.int .i32 (q : Int)] rfl (by simp [Value.oneCell']) rfl (by omega) (by omega) hc.size ?_; intro v2 wy hL hbq hkq; have hc := hc.trans hbq)))
            rw [Nat.add_assoc] at S9
            exact ⟨⟨f, k + (j + jq), acc ++ bl tb, Lib.hid S9.own, S9.inn, by omega, by rw [List.length_append, bl_length]; omega, by omega, Lib.hid E1.out.symm, Lib.hid S9.kp, S9.bel⟩, by show _ - nxt _ r < _ - nxt _ r; rw [HPOS.out, S9.inn.nxt]; omega⟩
    · have hkk : k = b.size := by omega
      subst hkk
      have e1 : runT tok5 f ((bl b).drop b.size) b.size acc = (acc, none) := by
        rw [List.drop_of_length_le (by rw [HBL.out]; exact Nat.le_refl _)]; exact runT_nil f _ acc
      rw [hRT.out] at e1
      have E1 := Lib.hid e1
      clear e1
      go_wp2_with (go_at_call 68; refine (in_left _ r b b.size 0 0 S.inn (Nat.le_refl _) (by omega)).mono ?_; rintro e wa ⟨rfl, hba⟩; have S := S.step hba; obtain ⟨⟨a1, a2⟩, ⟨a3, a4⟩⟩ := HZ.out wa S.kp; have hcv := conv_Own S.own)
      refine bodyPost_ret (v := .tuple #[.string ⟨acc.toArray⟩, .agg #[.int .i64 0, .int .i64 0]]) (by simp [results, Tryz.results45, go_sem, a1, a2, a3, a4]) rfl ?_
      refine (show EncPost _ _ _ _ from ⟨?_, ?_⟩)
      · rw [E1.out]; rfl
      · exact ((HBW0.out.trans (S.bel.mono hsz2)).setCell (Nat.le_refl _) _).setCell (Nat.le_refl _) _
end Go.Proofs.YtmpndnebjahdjaaGreatDoor
