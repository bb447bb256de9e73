/- Walks: wide.join, wide.Encode; charset.Encode in units. -/
import Derived.Test.YtmpndnebjahdjaaGreatDoorPl
import Derived.Test.YtmpndnebjahdjaaGreatDoorRx
namespace Go.Proofs.YtmpndnebjahdjaaGreatDoor
open Go.RowKit
set_option linter.unusedVariables false
set_option linter.unusedSimpArgs false

section
variable {P : Program} {ops : Array Oper} {rest : List Oper} {o : Oper} {a : Act} {Q : Exit → Act → World → Prop}
/-- 'append(v, x, y)' of two elements of one cell; where it lies. -/
theorem wpList_push2L (hgd : o.guard = none) (s x : Operand) (t e : TypeId) (ho : o.op = .call { callee := .builtin .append, args := #[s, x], argTypes := #[t, t] }) (ht : P.underlying t = some (.slice e))
    (z : Value) (bytes : Nat) (hi : (P.info? e).map (fun i => (i.zero, i.size, i.bytes)) = some (some z, 1, bytes)) (hzs : z.cells.size = 1)
    (W : World) (B : Nat) (v : Value) (n : Nat) (cs : List Value) (hs : a.eval s = v) (hown : W.ownsRow B e 1 v n cs) (news : Array Value) (hnl : news.size = 2) (h1 : ∀ u ∈ news.toList, u.oneCell' = true)
    (hx : a.eval x = .slice (some ⟨W.heap.size, 0, none⟩) 2 2) (hlen : n < 70368744177664) (hby : (n + 2) * bytes ≤ 140737488355328) (hB : B ≤ W.heap.size)
    (h : ∀ v' w', w'.ownsRow B e 1 v' (n + 2) (cs ++ news.toList) → Below B W w' → (∀ k, k < W.heap.size → some k ≠ v.ownBlock → w'.heap[k]? = W.heap[k]?) → (v'.ownBlock = v.ownBlock ∨ v'.ownBlock = some (W.heap.size + 1)) → wpList P ops Q rest (a.put o.dst v') w') : wpList P ops Q (o :: rest) a (W.alloc (.cells news e)) := by
  obtain ⟨i0, hi, hz0, hz1, hz2⟩ := info_parts hi
  refine wpList_append_own_at _ hgd s x t ho B e i0 z 1 bytes ht hi hz0 hz1 hz2 hzs (by decide) v n cs hs (orow_bel hown ((Below.refl _ _).alloc (Nat.le_refl _) _)) ⟨W.heap.size, 0, none⟩ 2 2 news.toList hx (by simp [hnl]) ?_ h1 ?_ ?_ ?_ ?_
  · intro j u hj
    have ea : (⟨W.heap.size, 0, none⟩ : Addr).add j = ⟨W.heap.size, j, none⟩ := by
      by_cases h0 : j = 0
      · subst h0; rfl
      · simp [Addr.add, h0]
    rw [ea, World.cell?_alloc_new]
    simpa using hj
  · unfold maxLen; omega
  · exact hby
  · simp; omega
  · intro v' w1 h2 h3 _ h4
    rw [World.size_alloc] at h4
    refine h v' w1 h2 (((Below.refl _ _).alloc hB _).trans (orow_below (orow_bel hown ((Below.refl _ _).alloc (Nat.le_refl _) _)) h3 (by simp; omega))) (fun k hk hne => ?_) h4
    rw [h3.block k (by simp; omega) hne]
    exact ((Below.refl _ _).alloc (Nat.le_refl _) _).block k hk
end
/-- the two bytes of a unit. -/
def unitB (big : Bool) (u : Int) : List UInt8 := if big then [UInt8.ofNat (u.toNat / 256), UInt8.ofNat (u.toNat % 256)] else [UInt8.ofNat (u.toNat % 256), UInt8.ofNat (u.toNat / 256)]
theorem unitB_len (big : Bool) (u : Int) : (unitB big u).length = 2 := by unfold unitB; split <;> rfl
theorem unitB_cells (u : Int) (h0 : 0 ≤ u) (h1 : u < 65536) : bcells (unitB true u) = [.int .u8 (u / 256), .int .u8 (u % 256)] ∧ bcells (unitB false u) = [.int .u8 (u % 256), .int .u8 (u / 256)] := by
  obtain ⟨n, rfl⟩ := Int.eq_ofNat_of_zero_le h0
  have e1 : ((UInt8.ofNat (n / 256)).toNat : Int) = (n : Int) / 256 := by rw [UInt8.toNat_ofNat']; omega
  have e2 : ((UInt8.ofNat (n % 256)).toNat : Int) = (n : Int) % 256 := by rw [UInt8.toNat_ofNat']; omega
  constructor
  · simp only [unitB, bcells, List.map_cons, List.map_nil, Int.toNat_natCast, if_true, e1, e2]
  · simp only [unitB, bcells, List.map_cons, List.map_nil, Int.toNat_natCast, Bool.false_eq_true, if_false, e1, e2]
theorem cell_blk {w w' : World} {b o : Nat} (h : w'.heap[b]? = w.heap[b]?) : w'.cell? ⟨b, o, none⟩ = w.cell? ⟨b, o, none⟩ := by simp [World.cell?, h]
/-- what a join of units leaves. -/
def JoinPost (big : Bool) (v : Value) (l : List UInt8) (us : List Int) (B : Nat) (w : World) (e : Ending) (w' : World) : Prop :=
  ∃ v', e = .returned v' ∧ Own w' B v' (l ++ us.flatMap (unitB big)) ∧ Below B w w' ∧ (∀ k, k < w.heap.size → some k ≠ v.ownBlock → w'.heap[k]? = w.heap[k]?)
set_option maxRecDepth 100000 in
set_option maxHeartbeats 8000000 in
theorem join_any (big : Bool) (v : Value) (l : List UInt8) (us : List Int) (g m : Nat) (w : World) (B : Nat) (hown : Own w B v l) (hB : B ≤ w.heap.size) (hm : m = us.length)
    (hrow : ∀ j x, (icells us)[j]? = some x → w.cell? ⟨g, j, none⟩ = some x) (hg : g < w.heap.size) (hne : v.ownBlock ≠ some g) (hu : ∀ u ∈ us, 0 ≤ u ∧ u < 65536) (hl : l.length ≤ 4294967296) (hm2 : m ≤ 2) :
    Calls Tryz.prog 108 #[v, .bool big, .slice (some ⟨g, 0, none⟩) m m] w (JoinPost big v l us B w) := by
  have hlI : (l.length : Int) ≤ 4294967296 := by omega
  have HROW := Lib.hid hrow
  have HNE := Lib.hid hne
  have HU := Lib.hid hu
  have HM := Lib.hid hm
  have HL := Lib.hid hl
  clear hrow hne hu hm hl
  go_enter Tryz.func108, Tryz.ntmps108
  go_wp2
  go_loopw [0, 11] (fun bv iv wr => ∃ (i : Nat) (acc : List UInt8), iv = .int .i64 (i : Int) ∧ Own wr B bv acc ∧ i ≤ m ∧ Hid (acc = l ++ (us.take i).flatMap (unitB big)) ∧ Hid (acc.length ≤ l.length + 2 * i) ∧ Below B w wr ∧
      Hid (∀ k, k < w.heap.size → some k ≠ v.ownBlock → wr.heap[k]? = w.heap[k]?) ∧ Hid (bv.ownBlock = v.ownBlock ∨ ∃ k, bv.ownBlock = some k ∧ w.heap.size ≤ k)) (fun _ iv _ => m - (intOf iv).toNat)
  case atStart => exact ⟨0, l, rfl, hown, Nat.zero_le _, Lib.hid (by simp), Lib.hid (by omega), Below.refl _ _, Lib.hid (fun _ _ _ => rfl), Lib.hid (.inl rfl)⟩
  case round =>
    obtain ⟨i, acc, rfl, hown2, hi, hQ, hA, hbel, hkp, hloc⟩ := hrel
    by_cases hlt : i < m
    · obtain ⟨u, huu⟩ := at_some us i (by rw [← HM.out]; exact hlt)
      have hcell0 : w.cell? ⟨g, i, none⟩ = some (.int .i32 u) := HROW.out i _ (by simp [icells, huu])
      have hcell : wr.cell? ⟨g, i, none⟩ = some (.int .i32 u) := by rw [cell_blk (hkp.out g hg (fun h => HNE.out h.symm))]; exact hcell0
      obtain ⟨hu0, hu1⟩ := HU.out u (List.mem_of_getElem? huu)
      obtain ⟨c1, c2⟩ := unitB_cells u hu0 hu1
      have hq : acc ++ unitB big u = l ++ (us.take (i + 1)).flatMap (unitB big) := by
        rw [hQ.out, List.take_add_one, huu, List.flatMap_append, List.append_assoc]; simp
      have hA' : (acc ++ unitB big u).length ≤ l.length + 2 * (i + 1) := by rw [List.length_append, unitB_len]; have := hA.out; omega
      have w0 : IntKind.u8.wrap (u / 256) = u / 256 := wraps_u8 _ (by omega) (by omega)
      have w1 : IntKind.u8.wrap u = u % 256 := by rw [IntKind.wrap_u8]
      have hal1 : acc.length < 70368744177664 := by have := hA.out; have := HL.out; omega
      have hal2 : (acc.length + 2) * 1 ≤ 140737488355328 := by omega
      have HAL1 := Lib.hid hal1
      have HAL2 := Lib.hid hal2
      have hbs := hbel.size
      have HQ := Lib.hid hq
      have HA := Lib.hid hA'
      have HC1 := Lib.hid c1
      have HC2 := Lib.hid c2
      clear hq hA' c1 c2
      clear hcell0 huu hQ hA hal1 hal2
      cases big with
      | true =>
        go_wp2_with (at_builtin; go_loud (refine wpList_push2L rfl _ _ 150 5 rfl Tryz.underlying150 (.int .u8 0) 1 infoByte rfl wr B u0 acc.length (bcells acc) rfl hown2 #[.int .u8 (u / 256), .int .u8 (u % 256)] rfl (by simp [Value.oneCell']) rfl HAL1.out HAL2.out (by omega) ?_; intro v' w4 hown4 hb4 hk4 hl4))
        have hown5 : Own w4 B v' (acc ++ unitB true u) := by unfold Own; rw [bcells_append, List.length_append, HC1.out, unitB_len]; exact hown4
        have hkp4 : Hid (∀ k, k < w.heap.size → some k ≠ v.ownBlock → w4.heap[k]? = w.heap[k]?) := Lib.hid (fun k hk hn => (hk4 k (by omega) (fun h => by
          rcases hloc.out with e | ⟨k', e, hk'⟩
          · exact hn (h.trans e)
          · have := Option.some.inj (h.trans e); omega)).trans (hkp.out k hk hn))
        have hloc4 : Hid (v'.ownBlock = v.ownBlock ∨ ∃ k, v'.ownBlock = some k ∧ w.heap.size ≤ k) := Lib.hid (by
          rcases hl4 with e | e
          · rcases hloc.out with e' | ⟨k', e', hk'⟩
            · exact .inl (e.trans e')
            · exact .inr ⟨k', e.trans e', hk'⟩
          · exact .inr ⟨_, e, by omega⟩)
        go_roundw
        case rel => exact ⟨i + 1, acc ++ unitB true u, by go_num, hown5, by omega, HQ, HA, hbel.trans hb4, hkp4, hloc4⟩
        case measure => simp [intOf]; omega
      | false =>
        go_wp2_with (at_builtin; go_loud (refine wpList_push2L rfl _ _ 150 5 rfl Tryz.underlying150 (.int .u8 0) 1 infoByte rfl wr B u0 acc.length (bcells acc) rfl hown2 #[.int .u8 (u % 256), .int .u8 (u / 256)] rfl (by simp [Value.oneCell']) rfl HAL1.out HAL2.out (by omega) ?_; intro v' w4 hown4 hb4 hk4 hl4))
        have hown5 : Own w4 B v' (acc ++ unitB false u) := by unfold Own; rw [bcells_append, List.length_append, HC2.out, unitB_len]; exact hown4
        have hkp4 : Hid (∀ k, k < w.heap.size → some k ≠ v.ownBlock → w4.heap[k]? = w.heap[k]?) := Lib.hid (fun k hk hn => (hk4 k (by omega) (fun h => by
          rcases hloc.out with e | ⟨k', e, hk'⟩
          · exact hn (h.trans e)
          · have := Option.some.inj (h.trans e); omega)).trans (hkp.out k hk hn))
        have hloc4 : Hid (v'.ownBlock = v.ownBlock ∨ ∃ k, v'.ownBlock = some k ∧ w.heap.size ≤ k) := Lib.hid (by
          rcases hl4 with e | e
          · rcases hloc.out with e' | ⟨k', e', hk'⟩
            · exact .inl (e.trans e')
            · exact .inr ⟨k', e.trans e', hk'⟩
          · exact .inr ⟨_, e, by omega⟩)
        go_roundw
        case rel => exact ⟨i + 1, acc ++ unitB false u, by go_num, hown5, by omega, HQ, HA, hbel.trans hb4, hkp4, hloc4⟩
        case measure => simp [intOf]; omega
    · have him : i = m := by omega
      have hq := hQ.out
      rw [List.take_of_length_le (by rw [← HM.out]; omega)] at hq
      have HQ := Lib.hid hq
      clear hq hQ hlt
      subst him
      go_wp2
      refine bodyPost_ret (v := u0) (by simp [results, Tryz.results108, go_sem]) rfl ?_
      exact (show JoinPost _ _ _ _ _ _ _ _ from ⟨_, rfl, by rw [← HQ.out]; exact hown2, hbel, hkp.out⟩)
end Go.Proofs.YtmpndnebjahdjaaGreatDoor
/- Walks: wide.Encode; charset.Encode in units. -/
namespace Go.Proofs.YtmpndnebjahdjaaGreatDoor
open Go.RowKit
set_option linter.unusedVariables false
set_option linter.unusedSimpArgs false

/-- the units of a sign. -/
def unitsP (p : Int) : List Int := if p < 65536 then [p] else [55296 + (p - 65536) / 1024, 56320 + (p - 65536) % 1024]
/-- a sign's bytes, in units. -/
def bytesP (big : Bool) (p : Int) : List UInt8 := (unitsP p).flatMap (unitB big)
def tokWE (big : Bool) : Tok := fun l => some (bytesP big (dec l).1, (dec l).2)
/-- what wide.Encode answers. -/
def encW (big : Bool) (l : List UInt8) : Value := match (scanL l).2 with
  | some k => .tuple #[.string ⟨#[]⟩, faultV (some k)]
  | none => .tuple #[.string ⟨(decT (tokWE big) l).1.toArray⟩, faultV none]
theorem bytesP_len (big : Bool) (p : Int) : (bytesP big p).length ≤ 4 := by
  unfold bytesP unitsP
  split <;> simp [unitB_len]
theorem runWE_none (big : Bool) : ∀ (f : Nat) (l : List UInt8) (n : Nat) (acc : List UInt8), (runT (tokWE big) f l n acc).2 = none := by
  intro f
  induction f with
  | zero => intro l n acc; rfl
  | succ f ih =>
    intro l n acc
    rw [runT]
    split
    · rfl
    · exact ih _ _ _
set_option maxRecDepth 100000 in
set_option maxHeartbeats 8000000 in
theorem wencode_bad (big : Bool) (b : ByteArray) (w : World) (hT : TW w) (hb : b.size ≤ 1073741824) (num k : Nat) (hsc : scanL (bl b) = (num, some k)) :
    Calls Tryz.prog 47 #[.string b, .bool big] w (EncPost (encW big (bl b)) w) := by
  have k1 := fun w hT => check_any b w hT (by omega)
  have k2 := fun a b w => bad_any a b w
  have e0 : encW big (bl b) = .tuple #[.string ⟨#[]⟩, .agg #[.int .i64 2, .int .i64 k]] := by unfold encW; rw [hsc]; rfl
  rw [e0]
  rw [hsc] at k1
  simp only [faultV] at k1
  have hb0 := bal (Below.refl w.heap.size w) (.cells #[.int .i64 0, .int .i64 0] 25)
  have l0 := Live.fresh w #[.int .i64 0, .int .i64 0] 25 0 _ rfl
  have l1 := Live.fresh w #[.int .i64 0, .int .i64 0] 25 1 _ rfl
  have K1 := Lib.hid k1
  have K2 := Lib.hid k2
  have HB0 := Lib.hid hb0
  have L0 := Lib.hid l0
  have L1 := Lib.hid l1
  have HT := Lib.hid hT
  clear k1 k2 hb0 l0 l1 hT
  clear hsc e0
  go_enter Tryz.func47, Tryz.ntmps47
  go_wp2_with fail
  refine (K1.out _ (HT.out.bel HB0.out)).mono ?_
  rintro e w1 ⟨rfl, hb1⟩
  go_wp2_with (go_at_call 16; refine (K2.out _ _ _).mono ?_; rintro e w2 ⟨rfl, hb2⟩)
  have q0 := (Live.fresh w1 #[.int .i64 2, .int .i64 k] 25 0 _ rfl).keep hb2
  have q1 := (Live.fresh w1 #[.int .i64 2, .int .i64 k] 25 1 _ rfl).keep hb2
  have p0 := ((L0.out.keep hb1).alloc (.cells #[.int .i64 2, .int .i64 k] 25)).keep hb2
  have p1 := ((L1.out.keep hb1).alloc (.cells #[.int .i64 2, .int .i64 k] 25)).keep hb2
  have hbw : Below w.heap.size w w2 := HB0.out.trans ((bt (bal (bt (Below.refl _ _) hb1) _) hb2).mono HB0.out.size)
  clear hb1 hb2
  have g0 := fun x : Grown w2 => x.cell q0.1
  have g1 := fun x : Grown w2 => x.cell q1.1
  refine wp_region_grown_tail 2 (by kernel_rfl) (by kernel_rfl) ?_
  simp only [List.take_succ_cons, List.take_zero, List.drop_succ_cons, List.drop_zero]
  repeat (first | go_big_quiet_step (fail) | quiet_step (fail))
  refine wpQuiet_nil ?_
  intro _ hw'
  obtain ⟨xg, rfl⟩ := hw'
  obtain ⟨a1, a2⟩ := p0.keep xg.bel
  obtain ⟨a3, a4⟩ := p1.keep xg.bel
  have hbx := hbw.trans (xg.bel.mono hbw.size)
  clear g0 g1
  generalize xg.wd = W at *
  go_wp2_with fail
  refine bodyPost_ret (v := .tuple #[.string ⟨#[]⟩, .agg #[.int .i64 2, .int .i64 k]]) (by simp [results, Tryz.results47, go_sem, a1, a2, a3, a4]) rfl ?_
  exact (show EncPost _ _ _ _ from ⟨rfl, (hbx.setCell (Nat.le_refl _) _).setCell (Nat.le_refl _) _⟩)

set_option maxRecDepth 100000 in
set_option maxHeartbeats 8000000 in
theorem wencode_good (big : Bool) (b : ByteArray) (w : World) (hT : TW w) (hb : b.size ≤ 1073741824) (num : Nat) (hsc : scanL (bl b) = (num, none)) :
    Calls Tryz.prog 47 #[.string b, .bool big] w (EncPost (encW big (bl b)) w) := by
  have k1 := fun w hT => check_any b w hT (by omega)
  have k2 := fun a b w => bad_any a b w
  have e0 : encW big (bl b) = .tuple #[.string ⟨(decT (tokWE big) (bl b)).1.toArray⟩, .agg #[.int .i64 0, .int .i64 0]] := by unfold encW; rw [hsc]; rfl
  rw [e0]
  rw [hsc] at k1
  simp only [faultV] at k1
  obtain ⟨D, hD⟩ : ∃ D, D = decT (tokWE big) (bl b) := ⟨_, rfl⟩
  rw [← hD]
  have hb0 := bal (Below.refl w.heap.size w) (.cells #[.int .i64 0, .int .i64 0] 25)
  have l0 := Live.fresh w #[.int .i64 0, .int .i64 0] 25 0 _ rfl
  have l1 := Live.fresh w #[.int .i64 0, .int .i64 0] 25 1 _ rfl
  have K1 := Lib.hid k1
  have K2 := Lib.hid k2
  have HB0 := Lib.hid hb0
  have L0 := Lib.hid l0
  have L1 := Lib.hid l1
  have HT := Lib.hid hT
  have HD := Lib.hid hD
  clear k1 k2 hb0 l0 l1 hT hD
  clear hsc e0
  have HBL : Hid ((bl b).length = b.size) := bl_length b
  go_enter Tryz.func47, Tryz.ntmps47
  go_wp2_with fail
  refine (K1.out _ (HT.out.bel HB0.out)).mono ?_
  rintro e w1 ⟨rfl, hb1⟩
  go_wp2_with (go_at_call 16; refine (K2.out _ _ _).mono ?_; rintro e w2 ⟨rfl, hb2⟩)
  have hbw : Below w.heap.size w w2 := HB0.out.trans ((bt (bal (bt (Below.refl _ _) hb1) _) hb2).mono HB0.out.size)
  have p0 := ((L0.out.keep hb1).alloc (.cells #[.int .i64 0, .int .i64 0] 25)).keep hb2
  have p1 := ((L1.out.keep hb1).alloc (.cells #[.int .i64 0, .int .i64 0] 25)).keep hb2
  have hI0 := ItS.made w2 b
  have hB1 : Below w2.heap.size w2 (w2.iter b 0) := (Below.refl _ _).alloc (Nat.le_refl _) _
  generalize w2.iter b 0 = W0 at *
  have hW0 : w2.heap.size + 1 ≤ W0.heap.size := hI0.lt
  have hr0 := p0.keep hB1
  have hr1 := p1.keep hB1
  have hbw0 := hbw.trans (hB1.mono hbw.size)
  have hlw := p0.lt
  have R0 := Lib.hid hr0
  have R1 := Lib.hid hr1
  have HBW0 := Lib.hid hbw0
  clear hr0 hr1 hbw0
  clear hb1 hb2 p0 p1 hB1
  go_loopw [7] (fun v wr => ∃ (f k : Nat) (acc : List UInt8), Hid (Own wr (w2.heap.size + 1) v acc) ∧ ItS wr w2.heap.size b k ∧ k ≤ b.size ∧ acc.length ≤ 4 * k ∧ b.size - k ≤ f ∧ Hid (runT (tokWE big) f ((bl b).drop k) k acc = D) ∧
      Hid (∀ j, j < w2.heap.size → wr.heap[j]? = W0.heap[j]?) ∧ Below w2.heap.size W0 wr) (fun _ wr => b.size - wr.iterPos w2.heap.size)
  case atStart => exact ⟨b.size, 0, [], Lib.hid (Own.nil _ _), hI0, Nat.zero_le _, by simp, by omega, by have := HD.out; unfold decT at this; rw [HBL.out] at this; rw [List.drop_zero]; exact Lib.hid this.symm, Lib.hid (fun _ _ => rfl), Below.refl _ _⟩
  case round =>
    obtain ⟨f, k, acc, hown, hI, hk, hacc, hf, hRT, hkp, hbel⟩ := hrel
    have hne := hI.ne hown.out
    have hpos := hI.pos
    have hsz := hbel.size
    have hown3 : ∀ w' : World, (∀ j, j ≠ w2.heap.size → w'.heap[j]? = wr.heap[j]?) → Own w' (w2.heap.size + 1) _ acc := fun w' h => orow_other hown.out (fun q hq => h q (fun e => hne (by rw [hq, e])))
    have hz : ∀ (w' : World), (∀ j, j < w2.heap.size → w'.heap[j]? = wr.heap[j]?) → Live w' w.heap.size 0 (.int .i64 0) ∧ Live w' w.heap.size 1 (.int .i64 0) := fun w' h =>
      ⟨R0.out.blk ((h _ hlw).trans (hkp.out _ hlw)), R1.out.blk ((h _ hlw).trans (hkp.out _ hlw))⟩
    have HPOS := Lib.hid hpos
    have HNE := Lib.hid hne
    have HO3 := Lib.hid hown3
    have HZ := Lib.hid hz
    clear hpos hne hown3 hz
    by_cases hlt : k < b.size
    · obtain ⟨f, rfl⟩ : ∃ g, f = g + 1 := ⟨f - 1, by omega⟩
      rcases hd : dec ((bl b).drop k) with ⟨p, j⟩
      have hdp := dec_pos ((bl b).drop k)
      have hdr := dec_rune ((bl b).drop k)
      have hne2 : (bl b).drop k ≠ [] := drop_ne (by rw [HBL.out]; exact hlt)
      have hdl := dec_le _ hne2
      have ht : tokWE big ((bl b).drop k) = some (bytesP big (dec ((bl b).drop k)).1, (dec ((bl b).drop k)).2) := rfl
      rw [List.length_drop, HBL.out] at hdl
      rw [hd] at hdp hdr hdl ht
      simp only at hdp hdr hdl ht
      have e1 := runT_some (tok := tokWE big) f _ k acc _ _ hne2 ht
      rw [hRT.out, List.drop_drop] at e1
      have hbl := bytesP_len big p
      have hbk : ∀ k' : Nat, (some k' = u7.ownBlock) → w2.heap.size + 1 ≤ k' ∧ k' < wr.heap.size := fun k' h => orow_blk hown.out k' h.symm
      have HBK := Lib.hid hbk
      clear hbk
      by_cases hp : p < 65536
      · have hbp : bytesP big p = [(p : Int)].flatMap (unitB big) := by unfold bytesP unitsP; rw [if_pos (by omega)]
        rw [hbp] at e1 hbl
        have hpI : (p : Int) < 65536 := by omega
        have hpI2 : (0 : Int) ≤ (p : Int) := by omega
        have E1 := Lib.hid e1
        have HDC := Lib.hid hd
        have HBLN := Lib.hid hbl
        clear e1 hd hbl
        clear ht hne2 hRT hbp hp hdr
        go_wp2_with (first
          | (at_next; refine wpList_nextD rfl _ rfl wr w2.heap.size b k rfl hI hlt p j HDC ?_; intro w3 hI3 ho3 hg3; have hs3 := hg3.size; obtain ⟨⟨a1, a2⟩, ⟨a3, a4⟩⟩ := HZ.out w3 (fun j hj => ho3 j (by omega)))
          | (go_at_call 108; refine (join_any big _ acc [(p : Int)] w3.heap.size 1 _ (w2.heap.size + 1) ((HO3.out w3 ho3).alloc _) (by rw [World.size_alloc]; omega) rfl (fun j x hj => ?_) (by rw [World.size_alloc]; omega) (fun h => by have := HBK.out _ h.symm; omega) (by intro u hu; simp at hu; omega) (by omega) (by omega)).mono ?_))
        · match j, hj with
          | 0, hj => simp [icells] at hj; subst hj; first | rfl | (rw [World.cell?_alloc_new]; rfl)
        · rintro e w4 ⟨v', rfl, hown4, hb4, hk4⟩
          rw [World.size_alloc] at hk4
          have hblk : ∀ q, q < w3.heap.size → some q ≠ u7.ownBlock → w4.heap[q]? = w3.heap[q]? := fun q hq hn => (hk4 q (by omega) hn).trans (((Below.refl w3.heap.size w3).alloc (Nat.le_refl _) _).block q hq)
          have hlow : ∀ q, q ≤ w2.heap.size → w4.heap[q]? = w3.heap[q]? := fun q hq => hblk q (by omega) (fun h => by have := HBK.out _ h; omega)
          have hI4 := hI3.blk (hlow w2.heap.size (Nat.le_refl _))
          have hB3 : Below w2.heap.size W0 w3 := hbel.grown hg3 (by omega) (by intro q hq; cases hq; omega)
          have hB4 : Below w2.heap.size W0 w4 := (hB3.trans (((Below.refl w3.heap.size w3).alloc (Nat.le_refl _) _).mono (by omega))).trans (hb4.mono (by omega))
          go_wp2
          exact ⟨⟨f, k + j, acc ++ [(p : Int)].flatMap (unitB big), Lib.hid hown4, hI4, by omega, by rw [List.length_append]; have := HBLN.out; omega, by omega, Lib.hid E1.out.symm, Lib.hid (fun q hq => (hlow q (by omega)).trans ((ho3 q (by omega)).trans (hkp.out q hq))), hB4⟩, by rw [HPOS.out, hI4.pos]; omega⟩
      · have hbp : bytesP big p = [55296 + ((p : Int) - 65536) / 1024, 56320 + ((p : Int) - 65536) % 1024].flatMap (unitB big) := by unfold bytesP unitsP; rw [if_neg (by omega)]
        rw [hbp] at e1 hbl
        have hpI : ¬ (p : Int) < 65536 := by omega
        have hpI2 : (p : Int) < 1114112 := by omega
        have hw1 : IntKind.i32.wrap ((p : Int) - 65536) = (p : Int) - 65536 := by rw [IntKind.wrap_i32]; omega
        have hw2 : bits .and .i32 ((p : Int) - 65536) 1023 = ((p : Int) - 65536) % 1024 := bits_mask .i32 31 (by decide) wraps_i32 10 (by decide) _ (by omega) (by omega)
        have hu : ∀ u ∈ [55296 + ((p : Int) - 65536) / 1024, 56320 + ((p : Int) - 65536) % 1024], 0 ≤ u ∧ u < 65536 := by
          intro u hu
          simp only [List.mem_cons, List.not_mem_nil, or_false] at hu
          rcases hu with rfl | rfl <;> omega
        have E1 := Lib.hid e1
        have HDC := Lib.hid hd
        have HBLN := Lib.hid hbl
        have HU := Lib.hid hu
        clear e1 hd hbl hu
        clear ht hne2 hRT hbp hp hdr
        go_wp2_with (first
          | (at_next; refine wpList_nextD rfl _ rfl wr w2.heap.size b k rfl hI hlt p j HDC ?_; intro w3 hI3 ho3 hg3; have hs3 := hg3.size; obtain ⟨⟨a1, a2⟩, ⟨a3, a4⟩⟩ := HZ.out w3 (fun j hj => ho3 j (by omega)))
          | (go_at_call 108; refine (join_any big _ acc [55296 + ((p : Int) - 65536) / 1024, 56320 + ((p : Int) - 65536) % 1024] w3.heap.size 2 _ (w2.heap.size + 1) ((HO3.out w3 ho3).alloc _) (by rw [World.size_alloc]; omega) rfl (fun j x hj => ?_) (by rw [World.size_alloc]; omega) (fun h => by have := HBK.out _ h.symm; omega) HU.out (by omega) (by omega)).mono ?_))
        · match j, hj with
          | 0, hj => simp [icells] at hj; subst hj; first | rfl | (rw [World.cell?_alloc_new]; rfl)
          | 1, hj => simp [icells] at hj; subst hj; first | rfl | (rw [World.cell?_alloc_new]; rfl)
        · rintro e w4 ⟨v', rfl, hown4, hb4, hk4⟩
          rw [World.size_alloc] at hk4
          have hblk : ∀ q, q < w3.heap.size → some q ≠ u7.ownBlock → w4.heap[q]? = w3.heap[q]? := fun q hq hn => (hk4 q (by omega) hn).trans (((Below.refl w3.heap.size w3).alloc (Nat.le_refl _) _).block q hq)
          have hlow : ∀ q, q ≤ w2.heap.size → w4.heap[q]? = w3.heap[q]? := fun q hq => hblk q (by omega) (fun h => by have := HBK.out _ h; omega)
          have hI4 := hI3.blk (hlow w2.heap.size (Nat.le_refl _))
          have hB3 : Below w2.heap.size W0 w3 := hbel.grown hg3 (by omega) (by intro q hq; cases hq; omega)
          have hB4 : Below w2.heap.size W0 w4 := (hB3.trans (((Below.refl w3.heap.size w3).alloc (Nat.le_refl _) _).mono (by omega))).trans (hb4.mono (by omega))
          go_wp2
          exact ⟨⟨f, k + j, acc ++ [55296 + ((p : Int) - 65536) / 1024, 56320 + ((p : Int) - 65536) % 1024].flatMap (unitB big), Lib.hid hown4, hI4, by omega, by rw [List.length_append]; have := HBLN.out; omega, by omega, Lib.hid E1.out.symm, Lib.hid (fun q hq => (hlow q (by omega)).trans ((ho3 q (by omega)).trans (hkp.out q hq))), hB4⟩, by rw [HPOS.out, hI4.pos]; omega⟩
    · have hkk : k = b.size := by omega
      subst hkk
      have e1 : runT (tokWE big) f ((bl b).drop b.size) b.size acc = (acc, none) := by
        rw [List.drop_of_length_le (by rw [HBL.out]; exact Nat.le_refl _)]; exact runT_nil f _ acc
      rw [hRT.out] at e1
      have E1 := Lib.hid e1
      obtain ⟨⟨a1, a2⟩, ⟨a3, a4⟩⟩ := HZ.out wr (fun _ _ => rfl)
      have hcv := conv_Own hown.out
      have hbx : Below w.heap.size w wr := HBW0.out.trans (hbel.mono (by omega))
      clear e1
      go_wp2_with (at_next; refine wpList_nextE rfl _ rfl wr w2.heap.size b b.size rfl hI (Nat.le_refl _) ?_)
      refine bodyPost_ret (v := .tuple #[.string ⟨acc.toArray⟩, .agg #[.int .i64 0, .int .i64 0]]) (by simp [results, Tryz.results47, go_sem, a1, a2, a3, a4]) rfl ?_
      refine (show EncPost _ _ _ _ from ⟨?_, ?_⟩)
      · rw [E1.out]
      · exact (hbx.setCell (Nat.le_refl _) _).setCell (Nat.le_refl _) _
theorem wencode_any (big : Bool) (b : ByteArray) (w : World) (hT : TW w) (hb : b.size ≤ 1073741824) :
    Calls Tryz.prog 47 #[.string b, .bool big] w (EncPost (encW big (bl b)) w) := by
  rcases hsc : scanL (bl b) with ⟨n, o⟩
  cases o with
  | none => exact wencode_good big b w hT hb n hsc
  | some k => exact wencode_bad big b w hT hb n k hsc
theorem encW_form (big : Bool) (l : List UInt8) : ∃ (u : List UInt8) (a b : Int), encW big l = .tuple #[.string ⟨u.toArray⟩, .agg #[.int .i64 a, .int .i64 b]] := by
  unfold encW
  cases (scanL l).2 with
  | none => exact ⟨_, _, _, rfl⟩
  | some k => exact ⟨_, _, _, rfl⟩
set_option maxRecDepth 100000 in
set_option maxHeartbeats 8000000 in
theorem cencode_wide (c : Int) (b : ByteArray) (w : World) (hT : TW w) (hb : b.size ≤ 1073741824) (h0 : 8 ≤ c) (h1 : c ≤ 9) :
    Calls Tryz.prog 12 #[.int .i64 c, .string b] w (EncPost (encW (decide (c = 9)) (bl b)) w) := by
  have k1 := fun w hT => wencode_any (decide (c = 9)) b w hT hb
  obtain ⟨t, f0, f1, hf⟩ := encW_form (decide (c = 9)) (bl b)
  rw [hf] at k1 ⊢
  clear hf
  have hb0 := bal (Below.refl w.heap.size w) (.cells #[.int .i64 0, .int .i64 0] 25)
  have l0 := Live.fresh w #[.int .i64 0, .int .i64 0] 25 0 _ rfl
  have l1 := Live.fresh w #[.int .i64 0, .int .i64 0] 25 1 _ rfl
  have K1 := Lib.hid k1
  have HT := Lib.hid hT
  have HB0 := Lib.hid hb0
  have L0 := Lib.hid l0
  have L1 := Lib.hid l1
  clear k1 hT hb0 l0 l1
  rcases (show c = 8 ∨ c = 9 from by omega) with rfl | rfl
  all_goals (
    go_enter Tryz.func12, Tryz.ntmps12
    go_wp2_with fail
    refine (K1.out _ (HT.out.bel HB0.out)).mono ?_
    rintro e w2 ⟨rfl, hb2⟩
    obtain ⟨a1, a2⟩ := L0.out.keep hb2
    obtain ⟨a3, a4⟩ := L1.out.keep hb2
    have hb02 := bt HB0.out hb2
    clear hb2
    have HB02 := Lib.hid hb02
    clear hb02
    go_wp2_with fail
    refine bodyPost_ret (v := .tuple #[.string ⟨t.toArray⟩, .agg #[.int .i64 f0, .int .i64 f1]]) (by simp [results, Tryz.results12, go_sem, a1, a2, a3, a4]) rfl ?_
    exact (show EncPost _ _ _ _ from ⟨rfl, (HB02.out.setCell (Nat.le_refl _) _).setCell (Nat.le_refl _) _⟩))
end Go.Proofs.YtmpndnebjahdjaaGreatDoor
