/- E5, Pl, Tj, Ve, Nz -/
import Derived.Test.YtmfjmgjhfplijaaGreatDoorMCi
import Derived.Test.YtmfjmgjhfplijaaGreatDoorMSk
import Derived.Test.YtmfjmgjhfplijaaGreatDoorMZA
import Derived.Test.YtmfjmgjhfplijaaGreatDoorMPo
import Derived.Test.YtmfjmgjhfplijaaGreatDoorMOx
import Derived.Test.YtmfjmgjhfplijaaGreatDoorMBj
import Derived.Test.YtmfjmgjhfplijaaGreatDoorMPu
import Derived.Test.YtmfjmgjhfplijaaGreatDoorMCk
import Derived.Test.YtmfjmgjhfplijaaGreatDoorMRx
import Derived.Test.YtmfjmgjhfplijaaGreatDoorMTm
namespace Go.Proofs.YtmfjmgjhfplijaaGreatDoor
open Go.RowKit
set_option linter.unusedVariables false
set_option linter.unusedSimpArgs false

/-- how a loop that reads stands. -/
structure St (W0 : World) (lo r : Nat) (b : ByteArray) (acc : List UInt8) (v : Value) (k : Nat) (w : World) : Prop where
  own : Own w W0.heap.size v acc
  inn : InC w r b (k : Nat) 0 0 0
  kp : ∀ j, j < lo → w.heap[j]? = W0.heap[j]?
  bel : Below lo W0 w
  lr : lo ≤ r
  rw : r < W0.heap.size
theorem St.step {W0 w w' : World} {lo r k : Nat} {b : ByteArray} {acc : List UInt8} {v : Value} (h : St W0 lo r b acc v k w) (hb : Below w.heap.size w w') : St W0 lo r b acc v k w' :=
  ⟨h.own.bel hb, h.inn.bel hb, fun j hj => (hb.block j (by have := h.bel.size; have := h.lr; have := h.rw; omega)).trans (h.kp j hj), h.bel.trans (hb.mono (by have := h.bel.size; have := h.lr; have := h.rw; omega)), h.lr, h.rw⟩
theorem St.take {W0 w w' : World} {lo r k k' : Nat} {b : ByteArray} {acc : List UInt8} {v : Value} (h : St W0 lo r b acc v k w) (hI : InC w' r b (k' : Nat) 0 0 0) (hg : w.grownBy w' (some r)) : St W0 lo r b acc v k' w' := by
  have h1 := h.bel.size
  have h2 := h.lr
  have h3 := h.rw
  refine ⟨orow_other h.own fun q hq => ?_, hI, fun j hj => (hg.block j (by omega) (fun e => by have := Option.some.inj e; omega)).trans (h.kp j hj), h.bel.grown hg (by omega) (by intro q hq; cases hq; exact h2), h2, h3⟩
  obtain ⟨y1, y2⟩ := h.own.blk q hq
  exact hg.block q y2 (fun e => by have := Option.some.inj e; omega)
theorem St.push {W0 w w' : World} {lo r k : Nat} {b : ByteArray} {acc acc' : List UInt8} {v v' : Value} (h : St W0 lo r b acc v k w) (ho : Own w' W0.heap.size v' acc') (hb : Below W0.heap.size w w') : St W0 lo r b acc' v' k w' := by
  have h2 := h.lr
  have h3 := h.rw
  exact ⟨ho, h.inn.blk (hb.block r h3), fun j hj => (hb.block j (by omega)).trans (h.kp j hj), h.bel.trans (hb.mono (by omega)), h2, h3⟩
end Go.Proofs.YtmfjmgjhfplijaaGreatDoor

namespace Go.Proofs.YtmfjmgjhfplijaaGreatDoor
open Go.RowKit
set_option linter.unusedVariables false
set_option linter.unusedSimpArgs false

theorem dec_plain (x : UInt8) (r : List UInt8) (h : x.toNat < 128) : dec (x :: r) = (x.toNat, 1) := by
  unfold dec Lib.decodeN
  simp [h]
end Go.Proofs.YtmfjmgjhfplijaaGreatDoor

namespace Go.Proofs.YtmfjmgjhfplijaaGreatDoor
open Go.RowKit
set_option linter.unusedVariables false
set_option linter.unusedSimpArgs false

section
variable {P : Program} {ops : Array Oper} {rest : List Oper} {o : Oper} {a : Act} {Q : Exit → Act → World → Prop}
/-- 'append(v, x, y)' of two elements of one cell; where it lies. -/
theorem wpList_push2L (hgd : o.guard = none) (s x : Operand) (t e : TypeId) (ho : o.op = .call { callee := .builtin .append, args := #[s, x], argTypes := #[t, t] }) (ht : P.underlying t = some (.slice e))
    (z : Value) (bytes : Nat) (hi : (P.info? e).map (fun i => (i.zero, i.size, i.bytes)) = some (some z, 1, bytes)) (hzs : z.cells.size = 1)
    (W : World) (B : Nat) (v : Value) (n : Nat) (cs : List Value) (hs : a.eval s = v) (hown : W.ownsRow B e 1 v n cs) (news : Array Value) (hnl : news.size = 2) (h1 : ∀ u ∈ news.toList, u.oneCell' = true)
    (hx : a.eval x = .slice (some ⟨W.heap.size, 0, none⟩) 2 2) (hlen : n < 70368744177664) (hby : (n + 2) * bytes ≤ 140737488355328) (hB : B ≤ W.heap.size)
    (h : ∀ v' w', w'.ownsRow B e 1 v' (n + 2) (cs ++ news.toList) → Below B W w' → (∀ k, k < W.heap.size → some k ≠ v.ownBlock → w'.heap[k]? = W.heap[k]?) → (v'.ownBlock = v.ownBlock ∨ v'.ownBlock = some (W.heap.size + 1)) → wpList P ops Q rest (a.put o.dst v') w') : wpList P ops Q (o :: rest) a (W.alloc (.cells news e)) := by
  obtain ⟨i0, hi, hz0, hz1, hz2⟩ := info_parts hi
  refine wpList_append_own_at _ hgd s x t ho B e i0 z 1 bytes ht hi hz0 hz1 hz2 hzs (by decide) v n cs hs (orow_bel hown ((Below.refl _ _).alloc (Nat.le_refl _) _)) ⟨W.heap.size, 0, none⟩ 2 2 news.toList hx (by simp [hnl]) ?_ h1 ?_ ?_ ?_ ?_
  · intro j u hj
    have ea : (⟨W.heap.size, 0, none⟩ : Addr).add j = ⟨W.heap.size, j, none⟩ := by
      by_cases h0 : j = 0
      · subst h0; rfl
      · simp [Addr.add, h0]
    rw [ea, World.cell?_alloc_new]
    simpa using hj
  · unfold maxLen; omega
  · exact hby
  · simp; omega
  · intro v' w1 h2 h3 _ h4
    rw [World.size_alloc] at h4
    refine h v' w1 h2 (((Below.refl _ _).alloc hB _).trans (orow_below (orow_bel hown ((Below.refl _ _).alloc (Nat.le_refl _) _)) h3 (by simp; omega))) (fun k hk hne => ?_) h4
    rw [h3.block k (by simp; omega) hne]
    exact ((Below.refl _ _).alloc (Nat.le_refl _) _).block k hk
end
/-- the two bytes of a unit. -/
def unitB (big : Bool) (u : Int) : List UInt8 := if big then [UInt8.ofNat (u.toNat / 256), UInt8.ofNat (u.toNat % 256)] else [UInt8.ofNat (u.toNat % 256), UInt8.ofNat (u.toNat / 256)]
theorem unitB_len (big : Bool) (u : Int) : (unitB big u).length = 2 := by unfold unitB; split <;> rfl
theorem unitB_cells (u : Int) (h0 : 0 ≤ u) (h1 : u < 65536) : bcells (unitB true u) = [.int .u8 (u / 256), .int .u8 (u % 256)] ∧ bcells (unitB false u) = [.int .u8 (u % 256), .int .u8 (u / 256)] := by
  obtain ⟨n, rfl⟩ := Int.eq_ofNat_of_zero_le h0
  have e1 : ((UInt8.ofNat (n / 256)).toNat : Int) = (n : Int) / 256 := by rw [UInt8.toNat_ofNat']; omega
  have e2 : ((UInt8.ofNat (n % 256)).toNat : Int) = (n : Int) % 256 := by rw [UInt8.toNat_ofNat']; omega
  constructor
  · simp only [unitB, bcells, List.map_cons, List.map_nil, Int.toNat_natCast, if_true, e1, e2]
  · simp only [unitB, bcells, List.map_cons, List.map_nil, Int.toNat_natCast, Bool.false_eq_true, if_false, e1, e2]
theorem cell_blk {w w' : World} {b o : Nat} (h : w'.heap[b]? = w.heap[b]?) : w'.cell? ⟨b, o, none⟩ = w.cell? ⟨b, o, none⟩ := by simp [World.cell?, h]
/-- what a join of units leaves. -/
def JoinPost (big : Bool) (v : Value) (l : List UInt8) (us : List Int) (B : Nat) (w : World) (e : Ending) (w' : World) : Prop :=
  ∃ v', e = .returned v' ∧ Own w' B v' (l ++ us.flatMap (unitB big)) ∧ Below B w w' ∧ (∀ k, k < w.heap.size → some k ≠ v.ownBlock → w'.heap[k]? = w.heap[k]?)
set_option maxRecDepth 100000 in
set_option maxHeartbeats 8000000 in
theorem join_any (big : Bool) (v : Value) (l : List UInt8) (us : List Int) (g m : Nat) (w : World) (B : Nat) (hown : Own w B v l) (hB : B ≤ w.heap.size) (hm : m = us.length)
    (hrow : ∀ j x, (icells us)[j]? = some x → w.cell? ⟨g, j, none⟩ = some x) (hg : g < w.heap.size) (hne : v.ownBlock ≠ some g) (hu : ∀ u ∈ us, 0 ≤ u ∧ u < 65536) (hl : l.length ≤ 4294967296) (hm2 : m ≤ 2) :
    Calls Tryz.prog 151 #[v, .bool big, .slice (some ⟨g, 0, none⟩) m m] w (JoinPost big v l us B w) := by
  have hlI : (l.length : Int) ≤ 4294967296 := by omega
  have HROW := Lib.hid hrow
  have HNE := Lib.hid hne
  have HU := Lib.hid hu
  have HM := Lib.hid hm
  have HL := Lib.hid hl
  clear hrow hne hu hm hl
  go_enter Tryz.func151, Tryz.ntmps151
  go_wp2
  go_loopw [0, 11] (fun bv iv wr => ∃ (i : Nat) (acc : List UInt8), iv = .int .i64 (i : Int) ∧ Own wr B bv acc ∧ i ≤ m ∧ Hid (acc = l ++ (us.take i).flatMap (unitB big)) ∧ Hid (acc.length ≤ l.length + 2 * i) ∧ Below B w wr ∧
      Hid (∀ k, k < w.heap.size → some k ≠ v.ownBlock → wr.heap[k]? = w.heap[k]?) ∧ Hid (bv.ownBlock = v.ownBlock ∨ ∃ k, bv.ownBlock = some k ∧ w.heap.size ≤ k)) (fun _ iv _ => m - (intOf iv).toNat)
  case atStart => exact ⟨0, l, rfl, hown, Nat.zero_le _, Lib.hid (by simp), Lib.hid (by omega), Below.refl _ _, Lib.hid (fun _ _ _ => rfl), Lib.hid (.inl rfl)⟩
  case round =>
    obtain ⟨i, acc, rfl, hown2, hi, hQ, hA, hbel, hkp, hloc⟩ := hrel
    by_cases hlt : i < m
    · obtain ⟨u, huu⟩ := at_some us i (by rw [← HM.out]; exact hlt)
      have hcell0 : w.cell? ⟨g, i, none⟩ = some (.int .i32 u) := HROW.out i _ (by simp [icells, huu])
      have hcell : wr.cell? ⟨g, i, none⟩ = some (.int .i32 u) := by rw [cell_blk (hkp.out g hg (fun h => HNE.out h.symm))]; exact hcell0
      obtain ⟨hu0, hu1⟩ := HU.out u (List.mem_of_getElem? huu)
      obtain ⟨c1, c2⟩ := unitB_cells u hu0 hu1
      have hq : acc ++ unitB big u = l ++ (us.take (i + 1)).flatMap (unitB big) := by
        rw [hQ.out, List.take_add_one, huu, List.flatMap_append, List.append_assoc]; simp
      have hA' : (acc ++ unitB big u).length ≤ l.length + 2 * (i + 1) := by rw [List.length_append, unitB_len]; have := hA.out; omega
      have w0 : IntKind.u8.wrap (u / 256) = u / 256 := wraps_u8 _ (by omega) (by omega)
      have w1 : IntKind.u8.wrap u = u % 256 := by rw [IntKind.wrap_u8]
      have hal1 : acc.length < 70368744177664 := by have := hA.out; have := HL.out; omega
      have hal2 : (acc.length + 2) * 1 ≤ 140737488355328 := by omega
      have HAL1 := Lib.hid hal1
      have HAL2 := Lib.hid hal2
      have hbs := hbel.size
      have HQ := Lib.hid hq
      have HA := Lib.hid hA'
      have HC1 := Lib.hid c1
      have HC2 := Lib.hid c2
      clear hq hA' c1 c2
      clear hcell0 huu hQ hA hal1 hal2
      cases big with
      | true =>
        go_wp2_with (at_builtin; go_loud (refine wpList_push2L rfl _ _ 178 5 rfl Tryz.underlying178 (.int .u8 0) 1 infoByte rfl wr B u0 acc.length (bcells acc) rfl hown2 #[.int .u8 (u / 256), .int .u8 (u % 256)] rfl (by simp [Value.oneCell']) rfl HAL1.out HAL2.out (by omega) ?_; intro v' w4 hown4 hb4 hk4 hl4))
        have hown5 : Own w4 B v' (acc ++ unitB true u) := by unfold Own; rw [bcells_append, List.length_append, HC1.out, unitB_len]; exact hown4
        have hkp4 : Hid (∀ k, k < w.heap.size → some k ≠ v.ownBlock → w4.heap[k]? = w.heap[k]?) := Lib.hid (fun k hk hn => (hk4 k (by omega) (fun h => by
          rcases hloc.out with e | ⟨k', e, hk'⟩
          · exact hn (h.trans e)
          · have := Option.some.inj (h.trans e); omega)).trans (hkp.out k hk hn))
        have hloc4 : Hid (v'.ownBlock = v.ownBlock ∨ ∃ k, v'.ownBlock = some k ∧ w.heap.size ≤ k) := Lib.hid (by
          rcases hl4 with e | e
          · rcases hloc.out with e' | ⟨k', e', hk'⟩
            · exact .inl (e.trans e')
            · exact .inr ⟨k', e.trans e', hk'⟩
          · exact .inr ⟨_, e, by omega⟩)
        go_roundw
        case rel => exact ⟨i + 1, acc ++ unitB true u, by go_num, hown5, by omega, HQ, HA, hbel.trans hb4, hkp4, hloc4⟩
        case measure => simp [intOf]; omega
      | false =>
        go_wp2_with (at_builtin; go_loud (refine wpList_push2L rfl _ _ 178 5 rfl Tryz.underlying178 (.int .u8 0) 1 infoByte rfl wr B u0 acc.length (bcells acc) rfl hown2 #[.int .u8 (u % 256), .int .u8 (u / 256)] rfl (by simp [Value.oneCell']) rfl HAL1.out HAL2.out (by omega) ?_; intro v' w4 hown4 hb4 hk4 hl4))
        have hown5 : Own w4 B v' (acc ++ unitB false u) := by unfold Own; rw [bcells_append, List.length_append, HC2.out, unitB_len]; exact hown4
        have hkp4 : Hid (∀ k, k < w.heap.size → some k ≠ v.ownBlock → w4.heap[k]? = w.heap[k]?) := Lib.hid (fun k hk hn => (hk4 k (by omega) (fun h => by
          rcases hloc.out with e | ⟨k', e, hk'⟩
          · exact hn (h.trans e)
          · have := Option.some.inj (h.trans e); omega)).trans (hkp.out k hk hn))
        have hloc4 : Hid (v'.ownBlock = v.ownBlock ∨ ∃ k, v'.ownBlock = some k ∧ w.heap.size ≤ k) := Lib.hid (by
          rcases hl4 with e | e
          · rcases hloc.out with e' | ⟨k', e', hk'⟩
            · exact .inl (e.trans e')
            · exact .inr ⟨k', e.trans e', hk'⟩
          · exact .inr ⟨_, e, by omega⟩)
        go_roundw
        case rel => exact ⟨i + 1, acc ++ unitB false u, by go_num, hown5, by omega, HQ, HA, hbel.trans hb4, hkp4, hloc4⟩
        case measure => simp [intOf]; omega
    · have him : i = m := by omega
      have hq := hQ.out
      rw [List.take_of_length_le (by rw [← HM.out]; omega)] at hq
      have HQ := Lib.hid hq
      clear hq hQ hlt
      subst him
      go_wp2
      refine bodyPost_ret (v := u0) (by simp [results, Tryz.results151, go_sem]) rfl ?_
      exact (show JoinPost _ _ _ _ _ _ _ _ from ⟨_, rfl, by rw [← HQ.out]; exact hown2, hbel, hkp.out⟩)
end Go.Proofs.YtmfjmgjhfplijaaGreatDoor
namespace Go.Proofs.YtmfjmgjhfplijaaGreatDoor
open Go.RowKit
set_option linter.unusedVariables false
set_option linter.unusedSimpArgs false

/-- the units of a sign. -/
def unitsP (p : Int) : List Int := if p < 65536 then [p] else [55296 + (p - 65536) / 1024, 56320 + (p - 65536) % 1024]
/-- a sign's bytes, in units. -/
def bytesP (big : Bool) (p : Int) : List UInt8 := (unitsP p).flatMap (unitB big)
def tokWE (big : Bool) : Tok := fun l => some (bytesP big (dec l).1, (dec l).2)
/-- what wide.Encode answers. -/
def encW (big : Bool) (l : List UInt8) : Value := match (scanL l).2 with
  | some k => .tuple #[.string ⟨#[]⟩, faultV (some k)]
  | none => .tuple #[.string ⟨(decT (tokWE big) l).1.toArray⟩, faultV none]
theorem bytesP_len (big : Bool) (p : Int) : (bytesP big p).length ≤ 4 := by
  unfold bytesP unitsP
  split <;> simp [unitB_len]
set_option maxRecDepth 100000 in
set_option maxHeartbeats 8000000 in
theorem wencode_bad (big : Bool) (b : ByteArray) (w : World) (hT : TW w) (hb : b.size ≤ 1073741824) (num k : Nat) (hsc : scanL (bl b) = (num, some k)) :
    Calls Tryz.prog 106 #[.string b, .bool big] w (EncPost (encW big (bl b)) w) := by
  have k1 := fun w hT => check_any b w hT (by omega)
  have k2 := fun a b w => bad_any a b w
  have e0 : encW big (bl b) = .tuple #[.string ⟨#[]⟩, .agg #[.int .i64 2, .int .i64 k]] := by unfold encW; rw [hsc]; rfl
  rw [e0]
  rw [hsc] at k1
  simp only [faultV] at k1
  have hb0 := bal (Below.refl w.heap.size w) (.cells #[.int .i64 0, .int .i64 0] 34)
  have l0 := Live.fresh w #[.int .i64 0, .int .i64 0] 34 0 _ rfl
  have l1 := Live.fresh w #[.int .i64 0, .int .i64 0] 34 1 _ rfl
  have K1 := Lib.hid k1
  have K2 := Lib.hid k2
  have HB0 := Lib.hid hb0
  have L0 := Lib.hid l0
  have L1 := Lib.hid l1
  have HT := Lib.hid hT
  clear k1 k2 hb0 l0 l1 hT
  clear hsc e0
  go_enter Tryz.func106, Tryz.ntmps106
  go_wp2_with fail
  refine (K1.out _ (HT.out.bel HB0.out)).mono ?_
  rintro e w1 ⟨rfl, hb1⟩
  go_wp2_with (go_at_call 16; refine (K2.out _ _ _).mono ?_; rintro e w2 ⟨rfl, hb2⟩)
  have q0 := (Live.fresh w1 #[.int .i64 2, .int .i64 k] 34 0 _ rfl).keep hb2
  have q1 := (Live.fresh w1 #[.int .i64 2, .int .i64 k] 34 1 _ rfl).keep hb2
  have p0 := ((L0.out.keep hb1).alloc (.cells #[.int .i64 2, .int .i64 k] 34)).keep hb2
  have p1 := ((L1.out.keep hb1).alloc (.cells #[.int .i64 2, .int .i64 k] 34)).keep hb2
  have hbw : Below w.heap.size w w2 := HB0.out.trans ((bt (bal (bt (Below.refl _ _) hb1) _) hb2).mono HB0.out.size)
  clear hb1 hb2
  have g0 := fun x : Grown w2 => x.cell q0.1
  have g1 := fun x : Grown w2 => x.cell q1.1
  refine wp_region_grown_tail 2 (by kernel_rfl) (by kernel_rfl) ?_
  simp only [List.take_succ_cons, List.take_zero, List.drop_succ_cons, List.drop_zero]
  repeat (first | go_big_quiet_step (fail) | quiet_step (fail))
  refine wpQuiet_nil ?_
  intro _ hw'
  obtain ⟨xg, rfl⟩ := hw'
  obtain ⟨a1, a2⟩ := p0.keep xg.bel
  obtain ⟨a3, a4⟩ := p1.keep xg.bel
  have hbx := hbw.trans (xg.bel.mono hbw.size)
  clear g0 g1
  generalize xg.wd = W at *
  go_wp2_with fail
  refine bodyPost_ret (v := .tuple #[.string ⟨#[]⟩, .agg #[.int .i64 2, .int .i64 k]]) (by simp [results, Tryz.results106, go_sem, a1, a2, a3, a4]) rfl ?_
  exact (show EncPost _ _ _ _ from ⟨rfl, (hbx.setCell (Nat.le_refl _) _).setCell (Nat.le_refl _) _⟩)

set_option maxRecDepth 100000 in
set_option maxHeartbeats 8000000 in
theorem wencode_good (big : Bool) (b : ByteArray) (w : World) (hT : TW w) (hb : b.size ≤ 1073741824) (num : Nat) (hsc : scanL (bl b) = (num, none)) :
    Calls Tryz.prog 106 #[.string b, .bool big] w (EncPost (encW big (bl b)) w) := by
  have k1 := fun w hT => check_any b w hT (by omega)
  have k2 := fun a b w => bad_any a b w
  have e0 : encW big (bl b) = .tuple #[.string ⟨(decT (tokWE big) (bl b)).1.toArray⟩, .agg #[.int .i64 0, .int .i64 0]] := by unfold encW; rw [hsc]; rfl
  rw [e0]
  rw [hsc] at k1
  simp only [faultV] at k1
  obtain ⟨D, hD⟩ : ∃ D, D = decT (tokWE big) (bl b) := ⟨_, rfl⟩
  rw [← hD]
  have hb0 := bal (Below.refl w.heap.size w) (.cells #[.int .i64 0, .int .i64 0] 34)
  have l0 := Live.fresh w #[.int .i64 0, .int .i64 0] 34 0 _ rfl
  have l1 := Live.fresh w #[.int .i64 0, .int .i64 0] 34 1 _ rfl
  have K1 := Lib.hid k1
  have K2 := Lib.hid k2
  have HB0 := Lib.hid hb0
  have L0 := Lib.hid l0
  have L1 := Lib.hid l1
  have HT := Lib.hid hT
  have HD := Lib.hid hD
  clear k1 k2 hb0 l0 l1 hT hD
  clear hsc e0
  have HBL : Hid ((bl b).length = b.size) := bl_length b
  go_enter Tryz.func106, Tryz.ntmps106
  go_wp2_with fail
  refine (K1.out _ (HT.out.bel HB0.out)).mono ?_
  rintro e w1 ⟨rfl, hb1⟩
  go_wp2_with (go_at_call 16; refine (K2.out _ _ _).mono ?_; rintro e w2 ⟨rfl, hb2⟩)
  have hbw : Below w.heap.size w w2 := HB0.out.trans ((bt (bal (bt (Below.refl _ _) hb1) _) hb2).mono HB0.out.size)
  have p0 := ((L0.out.keep hb1).alloc (.cells #[.int .i64 0, .int .i64 0] 34)).keep hb2
  have p1 := ((L1.out.keep hb1).alloc (.cells #[.int .i64 0, .int .i64 0] 34)).keep hb2
  have hI0 := ItS.made w2 b
  have hB1 : Below w2.heap.size w2 (w2.iter b 0) := (Below.refl _ _).alloc (Nat.le_refl _) _
  generalize w2.iter b 0 = W0 at *
  have hW0 : w2.heap.size + 1 ≤ W0.heap.size := hI0.lt
  have hr0 := p0.keep hB1
  have hr1 := p1.keep hB1
  have hbw0 := hbw.trans (hB1.mono hbw.size)
  have hlw := p0.lt
  have R0 := Lib.hid hr0
  have R1 := Lib.hid hr1
  have HBW0 := Lib.hid hbw0
  clear hr0 hr1 hbw0
  clear hb1 hb2 p0 p1 hB1
  go_loopw [7] (fun v wr => ∃ (f k : Nat) (acc : List UInt8), Hid (Own wr (w2.heap.size + 1) v acc) ∧ ItS wr w2.heap.size b k ∧ k ≤ b.size ∧ acc.length ≤ 4 * k ∧ b.size - k ≤ f ∧ Hid (runT (tokWE big) f ((bl b).drop k) k acc = D) ∧
      Hid (∀ j, j < w2.heap.size → wr.heap[j]? = W0.heap[j]?) ∧ Below w2.heap.size W0 wr) (fun _ wr => b.size - wr.iterPos w2.heap.size)
  case atStart => exact ⟨b.size, 0, [], Lib.hid (Own.nil _ _), hI0, Nat.zero_le _, by simp, by omega, by have := HD.out; unfold decT at this; rw [HBL.out] at this; rw [List.drop_zero]; exact Lib.hid this.symm, Lib.hid (fun _ _ => rfl), Below.refl _ _⟩
  case round =>
    obtain ⟨f, k, acc, hown, hI, hk, hacc, hf, hRT, hkp, hbel⟩ := hrel
    have hne := hI.ne hown.out
    have hpos := hI.pos
    have hsz := hbel.size
    have hown3 : ∀ w' : World, (∀ j, j ≠ w2.heap.size → w'.heap[j]? = wr.heap[j]?) → Own w' (w2.heap.size + 1) _ acc := fun w' h => orow_other hown.out (fun q hq => h q (fun e => hne (by rw [hq, e])))
    have hz : ∀ (w' : World), (∀ j, j < w2.heap.size → w'.heap[j]? = wr.heap[j]?) → Live w' w.heap.size 0 (.int .i64 0) ∧ Live w' w.heap.size 1 (.int .i64 0) := fun w' h =>
      ⟨R0.out.blk ((h _ hlw).trans (hkp.out _ hlw)), R1.out.blk ((h _ hlw).trans (hkp.out _ hlw))⟩
    have HPOS := Lib.hid hpos
    have HNE := Lib.hid hne
    have HO3 := Lib.hid hown3
    have HZ := Lib.hid hz
    clear hpos hne hown3 hz
    by_cases hlt : k < b.size
    · obtain ⟨f, rfl⟩ : ∃ g, f = g + 1 := ⟨f - 1, by omega⟩
      rcases hd : dec ((bl b).drop k) with ⟨p, j⟩
      have hdp := dec_pos ((bl b).drop k)
      have hdr := dec_rune ((bl b).drop k)
      have hne2 : (bl b).drop k ≠ [] := drop_ne (by rw [HBL.out]; exact hlt)
      have hdl := dec_le _ hne2
      have ht : tokWE big ((bl b).drop k) = some (bytesP big (dec ((bl b).drop k)).1, (dec ((bl b).drop k)).2) := rfl
      rw [List.length_drop, HBL.out] at hdl
      rw [hd] at hdp hdr hdl ht
      simp only at hdp hdr hdl ht
      have e1 := runT_some (tok := tokWE big) f _ k acc _ _ hne2 ht
      rw [hRT.out, List.drop_drop] at e1
      have hbl := bytesP_len big p
      have hbk : ∀ k' : Nat, (some k' = u7.ownBlock) → w2.heap.size + 1 ≤ k' ∧ k' < wr.heap.size := fun k' h => orow_blk hown.out k' h.symm
      have HBK := Lib.hid hbk
      clear hbk
      by_cases hp : p < 65536
      · have hbp : bytesP big p = [(p : Int)].flatMap (unitB big) := by unfold bytesP unitsP; rw [if_pos (by omega)]
        rw [hbp] at e1 hbl
        have hpI : (p : Int) < 65536 := by omega
        have hpI2 : (0 : Int) ≤ (p : Int) := by omega
        have E1 := Lib.hid e1
        have HDC := Lib.hid hd
        have HBLN := Lib.hid hbl
        clear e1 hd hbl
        clear ht hne2 hRT hbp hp hdr
        go_wp2_with (first
          | (at_next; refine wpList_nextD rfl _ rfl wr w2.heap.size b k rfl hI hlt p j HDC ?_; intro w3 hI3 ho3 hg3; have hs3 := hg3.size; obtain ⟨⟨a1, a2⟩, ⟨a3, a4⟩⟩ := HZ.out w3 (fun j hj => ho3 j (by omega)))
          | (go_at_call 151; refine (join_any big _ acc [(p : Int)] w3.heap.size 1 _ (w2.heap.size + 1) ((HO3.out w3 ho3).alloc _) (by rw [World.size_alloc]; omega) rfl (fun j x hj => ?_) (by rw [World.size_alloc]; omega) (fun h => by have := HBK.out _ h.symm; omega) (by intro u hu; simp at hu; omega) (by omega) (by omega)).mono ?_))
        · match j, hj with
          | 0, hj => simp [icells] at hj; subst hj; first | rfl | (rw [World.cell?_alloc_new]; rfl)
        · rintro e w4 ⟨v', rfl, hown4, hb4, hk4⟩
          rw [World.size_alloc] at hk4
          have hblk : ∀ q, q < w3.heap.size → some q ≠ u7.ownBlock → w4.heap[q]? = w3.heap[q]? := fun q hq hn => (hk4 q (by omega) hn).trans (((Below.refl w3.heap.size w3).alloc (Nat.le_refl _) _).block q hq)
          have hlow : ∀ q, q ≤ w2.heap.size → w4.heap[q]? = w3.heap[q]? := fun q hq => hblk q (by omega) (fun h => by have := HBK.out _ h; omega)
          have hI4 := hI3.blk (hlow w2.heap.size (Nat.le_refl _))
          have hB3 : Below w2.heap.size W0 w3 := hbel.grown hg3 (by omega) (by intro q hq; cases hq; omega)
          have hB4 : Below w2.heap.size W0 w4 := (hB3.trans (((Below.refl w3.heap.size w3).alloc (Nat.le_refl _) _).mono (by omega))).trans (hb4.mono (by omega))
          go_wp2
          exact ⟨⟨f, k + j, acc ++ [(p : Int)].flatMap (unitB big), Lib.hid hown4, hI4, by omega, by rw [List.length_append]; have := HBLN.out; omega, by omega, Lib.hid E1.out.symm, Lib.hid (fun q hq => (hlow q (by omega)).trans ((ho3 q (by omega)).trans (hkp.out q hq))), hB4⟩, by rw [HPOS.out, hI4.pos]; omega⟩
      · have hbp : bytesP big p = [55296 + ((p : Int) - 65536) / 1024, 56320 + ((p : Int) - 65536) % 1024].flatMap (unitB big) := by unfold bytesP unitsP; rw [if_neg (by omega)]
        rw [hbp] at e1 hbl
        have hpI : ¬ (p : Int) < 65536 := by omega
        have hpI2 : (p : Int) < 1114112 := by omega
        have hw1 : IntKind.i32.wrap ((p : Int) - 65536) = (p : Int) - 65536 := by rw [IntKind.wrap_i32]; omega
        have hw2 : bits .and .i32 ((p : Int) - 65536) 1023 = ((p : Int) - 65536) % 1024 := bits_mask .i32 31 (by decide) wraps_i32 10 (by decide) _ (by omega) (by omega)
        have hu : ∀ u ∈ [55296 + ((p : Int) - 65536) / 1024, 56320 + ((p : Int) - 65536) % 1024], 0 ≤ u ∧ u < 65536 := by
          intro u hu
          simp only [List.mem_cons, List.not_mem_nil, or_false] at hu
          rcases hu with rfl | rfl <;> omega
        have E1 := Lib.hid e1
        have HDC := Lib.hid hd
        have HBLN := Lib.hid hbl
        have HU := Lib.hid hu
        clear e1 hd hbl hu
        clear ht hne2 hRT hbp hp hdr
        go_wp2_with (first
          | (at_next; refine wpList_nextD rfl _ rfl wr w2.heap.size b k rfl hI hlt p j HDC ?_; intro w3 hI3 ho3 hg3; have hs3 := hg3.size; obtain ⟨⟨a1, a2⟩, ⟨a3, a4⟩⟩ := HZ.out w3 (fun j hj => ho3 j (by omega)))
          | (go_at_call 151; refine (join_any big _ acc [55296 + ((p : Int) - 65536) / 1024, 56320 + ((p : Int) - 65536) % 1024] w3.heap.size 2 _ (w2.heap.size + 1) ((HO3.out w3 ho3).alloc _) (by rw [World.size_alloc]; omega) rfl (fun j x hj => ?_) (by rw [World.size_alloc]; omega) (fun h => by have := HBK.out _ h.symm; omega) HU.out (by omega) (by omega)).mono ?_))
        · match j, hj with
          | 0, hj => simp [icells] at hj; subst hj; first | rfl | (rw [World.cell?_alloc_new]; rfl)
          | 1, hj => simp [icells] at hj; subst hj; first | rfl | (rw [World.cell?_alloc_new]; rfl)
        · rintro e w4 ⟨v', rfl, hown4, hb4, hk4⟩
          rw [World.size_alloc] at hk4
          have hblk : ∀ q, q < w3.heap.size → some q ≠ u7.ownBlock → w4.heap[q]? = w3.heap[q]? := fun q hq hn => (hk4 q (by omega) hn).trans (((Below.refl w3.heap.size w3).alloc (Nat.le_refl _) _).block q hq)
          have hlow : ∀ q, q ≤ w2.heap.size → w4.heap[q]? = w3.heap[q]? := fun q hq => hblk q (by omega) (fun h => by have := HBK.out _ h; omega)
          have hI4 := hI3.blk (hlow w2.heap.size (Nat.le_refl _))
          have hB3 : Below w2.heap.size W0 w3 := hbel.grown hg3 (by omega) (by intro q hq; cases hq; omega)
          have hB4 : Below w2.heap.size W0 w4 := (hB3.trans (((Below.refl w3.heap.size w3).alloc (Nat.le_refl _) _).mono (by omega))).trans (hb4.mono (by omega))
          go_wp2
          exact ⟨⟨f, k + j, acc ++ [55296 + ((p : Int) - 65536) / 1024, 56320 + ((p : Int) - 65536) % 1024].flatMap (unitB big), Lib.hid hown4, hI4, by omega, by rw [List.length_append]; have := HBLN.out; omega, by omega, Lib.hid E1.out.symm, Lib.hid (fun q hq => (hlow q (by omega)).trans ((ho3 q (by omega)).trans (hkp.out q hq))), hB4⟩, by rw [HPOS.out, hI4.pos]; omega⟩
    · have hkk : k = b.size := by omega
      subst hkk
      have e1 : runT (tokWE big) f ((bl b).drop b.size) b.size acc = (acc, none) := by
        rw [List.drop_of_length_le (by rw [HBL.out]; exact Nat.le_refl _)]; exact runT_nil f _ acc
      rw [hRT.out] at e1
      have E1 := Lib.hid e1
      obtain ⟨⟨a1, a2⟩, ⟨a3, a4⟩⟩ := HZ.out wr (fun _ _ => rfl)
      have hcv := conv_Own hown.out
      have hbx : Below w.heap.size w wr := HBW0.out.trans (hbel.mono (by omega))
      clear e1
      go_wp2_with (at_next; refine wpList_nextE rfl _ rfl wr w2.heap.size b b.size rfl hI (Nat.le_refl _) ?_)
      refine bodyPost_ret (v := .tuple #[.string ⟨acc.toArray⟩, .agg #[.int .i64 0, .int .i64 0]]) (by simp [results, Tryz.results106, go_sem, a1, a2, a3, a4]) rfl ?_
      refine (show EncPost _ _ _ _ from ⟨?_, ?_⟩)
      · rw [E1.out]
      · exact (hbx.setCell (Nat.le_refl _) _).setCell (Nat.le_refl _) _
theorem wencode_any (big : Bool) (b : ByteArray) (w : World) (hT : TW w) (hb : b.size ≤ 1073741824) :
    Calls Tryz.prog 106 #[.string b, .bool big] w (EncPost (encW big (bl b)) w) := by
  rcases hsc : scanL (bl b) with ⟨n, o⟩
  cases o with
  | none => exact wencode_good big b w hT hb n hsc
  | some k => exact wencode_bad big b w hT hb n k hsc
end Go.Proofs.YtmfjmgjhfplijaaGreatDoor

namespace Go.Proofs.YtmfjmgjhfplijaaGreatDoor
open Go.RowKit
set_option linter.unusedVariables false
set_option linter.unusedSimpArgs false

theorem eqU (z : Int) (b : UInt8) (h : z = (b.toNat : Int)) : z.toNat.toUInt8 = b := by
  have := b.toNat_lt
  apply UInt8.toNat_inj.1
  rw [u8n z (by omega) (by omega)]
  omega
theorem encR_of (v : Int) (zs : List Int) (bs : List UInt8) (hz : Lib.encodeRuneZ v = zs) (h : zs = bs.map fun b => (b.toNat : Int)) : encR v = bs := by
  unfold encR Lib.encodeRune
  rw [hz, h, List.map_map]
  conv => rhs; rw [← List.map_id bs]
  apply List.map_congr_left
  intro b _
  exact eqU _ b rfl
/-- a sign that is read stands as its own bytes. -/
theorem dec_enc (l : List UInt8) (hne : l ≠ []) (hb : badDec l = false) : l.take (dec l).2 = encR (dec l).1 ∧ Scal (dec l).1 := by
  match l, hne, hb with
  | b0 :: r0, _, hb =>
    have h0 := b0.toNat_lt
    by_cases c0 : b0.toNat < 128
    · rw [dec_plain b0 r0 c0]
      refine ⟨?_, by unfold Scal; simp only; omega⟩
      exact (encR_of _ [(b0.toNat : Int)] [b0] (Lib.encodeRuneZ_one (by omega) (by omega)) rfl).symm
    have E : dec (b0 :: r0) = Lib.decodeN (b0 :: r0).length b0.toNat ((b0 :: r0).getD 1 0).toNat ((b0 :: r0).getD 2 0).toNat ((b0 :: r0).getD 3 0).toNat := rfl
    unfold Lib.decodeN at E
    rw [if_neg c0] at E
    have bad : ¬ dec (b0 :: r0) = (65533, 1) := fun h => by rw [(dec_bad_iff _).2 h] at hb; cases hb
    by_cases c1 : b0.toNat / 32 = 6 ∧ (1 < (b0 :: r0).length ∧ ((b0 :: r0).getD 1 0).toNat / 64 = 2)
    · rw [if_pos c1] at E
      obtain ⟨d0, d1, d2⟩ := c1
      match r0, d1, d2, E, bad with
      | b1 :: r1, _, d2, E, bad =>
        have h1 := b1.toNat_lt
        have g1 : (b0 :: b1 :: r1).getD 1 0 = b1 := rfl
        rw [g1] at d2 E
        by_cases c2 : b0.toNat % 32 * 64 + b1.toNat % 64 ≥ 128
        · rw [if_pos c2] at E
          rw [E]
          refine ⟨?_, by unfold Scal; simp only; omega⟩
          refine (encR_of _ _ [b0, b1] (Lib.encodeRuneZ_two (by simp only; omega) (by simp only; omega)) ?_).symm
          simp only [List.map_cons, List.map_nil]
          congr 1
          · omega
          · congr 1; omega
        · rw [if_neg c2] at E; exact absurd E bad
    rw [if_neg c1] at E
    by_cases c3 : b0.toNat / 16 = 14 ∧ (1 < (b0 :: r0).length ∧ ((b0 :: r0).getD 1 0).toNat / 64 = 2) ∧ (2 < (b0 :: r0).length ∧ ((b0 :: r0).getD 2 0).toNat / 64 = 2)
    · rw [if_pos c3] at E
      obtain ⟨d0, ⟨d1, d2⟩, d3, d4⟩ := c3
      match r0, d1, d2, d3, d4, E, bad with
      | [b1], _, _, d3, _, _, _ => simp at d3
      | b1 :: b2 :: r1, _, d2, _, d4, E, bad =>
        have h1 := b1.toNat_lt
        have h2 := b2.toNat_lt
        have g1 : (b0 :: b1 :: b2 :: r1).getD 1 0 = b1 := rfl
        have g2 : (b0 :: b1 :: b2 :: r1).getD 2 0 = b2 := rfl
        rw [g1] at d2 E
        rw [g2] at d4 E
        split at E
        · next c2 =>
          rw [E]
          refine ⟨?_, by unfold Scal; simp only; omega⟩
          refine (encR_of _ _ [b0, b1, b2] (Lib.encodeRuneZ_three (by simp only; omega)) ?_).symm
          simp only [List.map_cons, List.map_nil]
          congr 1
          · omega
          · congr 1
            · omega
            · congr 1; omega
        · exact absurd E bad
    rw [if_neg c3] at E
    by_cases c4 : b0.toNat / 8 = 30 ∧ (1 < (b0 :: r0).length ∧ ((b0 :: r0).getD 1 0).toNat / 64 = 2) ∧ (2 < (b0 :: r0).length ∧ ((b0 :: r0).getD 2 0).toNat / 64 = 2) ∧ (3 < (b0 :: r0).length ∧ ((b0 :: r0).getD 3 0).toNat / 64 = 2)
    · rw [if_pos c4] at E
      have hr : ∃ b1 b2 b3 r1, r0 = b1 :: b2 :: b3 :: r1 := by
        have d5 := c4.2.2.2.1
        cases r0 with
        | nil => simp at d5
        | cons b1 r0 =>
          cases r0 with
          | nil => simp at d5
          | cons b2 r0 =>
            cases r0 with
            | nil => simp at d5
            | cons b3 r0 => exact ⟨b1, b2, b3, r0, rfl⟩
      obtain ⟨b1, b2, b3, r1, rfl⟩ := hr
      have g1 : (b0 :: b1 :: b2 :: b3 :: r1).getD 1 0 = b1 := rfl
      have g2 : (b0 :: b1 :: b2 :: b3 :: r1).getD 2 0 = b2 := rfl
      have g3 : (b0 :: b1 :: b2 :: b3 :: r1).getD 3 0 = b3 := rfl
      rw [g1, g2, g3] at c4 E
      have h1 := b1.toNat_lt
      have h2 := b2.toNat_lt
      have h3 := b3.toNat_lt
      have d0 := c4.1
      have d2 := c4.2.1.2
      have d4 := c4.2.2.1.2
      have d6 := c4.2.2.2.2
      clear c4 c3 c1
      generalize hv : b0.toNat % 8 * 262144 + b1.toNat % 64 * 4096 + b2.toNat % 64 * 64 + b3.toNat % 64 = v at E
      by_cases c2 : v ≥ 65536 ∧ (v < 55296 ∨ (57344 ≤ v ∧ v ≤ 1114111))
      · rw [if_pos c2] at E
        rw [E]
        refine ⟨?_, by unfold Scal; simp only; omega⟩
        refine (encR_of _ _ [b0, b1, b2, b3] (Lib.encodeRuneZ_four (by simp only; omega) (by simp only; omega)) ?_).symm
        simp only [List.map_cons, List.map_nil]
        congr 1
        · omega
        · congr 1
          · omega
          · congr 1
            · omega
            · congr 1; omega
      · rw [if_neg c2] at E; exact absurd E bad
    · rw [if_neg c4] at E; exact absurd E bad
theorem scan_enc : ∀ (f : Nat) (l : List UInt8) (a n : Nat), l.length ≤ f → (scanF f l a n).2 = none → l = encL (ptsF f l) ∧ ∀ p ∈ ptsF f l, Scal p := by
  intro f
  induction f with
  | zero =>
    intro l a n hl _
    obtain rfl : l = [] := List.eq_nil_of_length_eq_zero (by omega)
    exact ⟨rfl, fun p hp => by cases hp⟩
  | succ f ih =>
    intro l a n hl h
    rw [ptsF]
    by_cases hne : l = []
    · subst hne; exact ⟨rfl, fun p hp => by cases hp⟩
    · rw [if_neg hne]
      cases hb : badDec l with
      | true => rw [scanF_bad f l a n hne hb] at h; cases h
      | false =>
        rw [scanF_step f l a n hne hb] at h
        have hp := dec_pos l
        have hlp : 0 < l.length := List.length_pos_iff.2 hne
        obtain ⟨h1, h2⟩ := ih (l.drop (dec l).2) _ _ (by rw [List.length_drop]; omega) h
        obtain ⟨e1, e2⟩ := dec_enc l hne hb
        refine ⟨?_, fun p hp => ?_⟩
        · rw [encL_cons, ← h1, ← e1, List.take_append_drop]
        · rcases List.mem_cons.1 hp with rfl | hp
          · exact e2
          · exact h2 p hp
theorem valid_enc (l : List UInt8) (h : (scanL l).2 = none) : l = encL (pts l) ∧ ∀ p ∈ pts l, Scal p := scan_enc l.length l 0 0 (Nat.le_refl _) h
theorem unitB_of (big : Bool) (u : Int) (h0 : 0 ≤ u) (h1 : u < 65536) : ∃ x y, unitB big u = [x, y] ∧ unitI x y big = u := by
  have e1 : (UInt8.ofNat (u.toNat / 256)).toNat = u.toNat / 256 := by rw [UInt8.toNat_ofNat']; omega
  have e2 : (UInt8.ofNat (u.toNat % 256)).toNat = u.toNat % 256 := by rw [UInt8.toNat_ofNat']; omega
  cases big with
  | true => exact ⟨_, _, rfl, by unfold unitI; rw [if_pos rfl, e1, e2]; omega⟩
  | false => exact ⟨_, _, rfl, by unfold unitI; rw [if_neg (by decide), e1, e2]; omega⟩
theorem wsign_bytes (big : Bool) (p : Int) (hp : Scal p) (r : List UInt8) : wsign big (bytesP big p ++ r) = (p, (bytesP big p).length) ∧ bytesP big p ≠ [] := by
  obtain ⟨p0, p1, p2⟩ := hp
  by_cases h : p < 65536
  · have e : bytesP big p = unitB big p := by unfold bytesP unitsP; rw [if_pos h]; simp
    obtain ⟨x, y, hb, hu⟩ := unitB_of big p p0 h
    rw [e, hb]
    refine ⟨?_, by simp⟩
    show wsign big (x :: y :: r) = (p, 2)
    rw [wsign.eq_def]
    simp only
    rw [hu, if_pos (by omega)]
  · have e : bytesP big p = unitB big (55296 + (p - 65536) / 1024) ++ unitB big (56320 + (p - 65536) % 1024) := by unfold bytesP unitsP; rw [if_neg h]; simp
    obtain ⟨x, y, hb, hu⟩ := unitB_of big (55296 + (p - 65536) / 1024) (by omega) (by omega)
    obtain ⟨z, v, hb2, hu2⟩ := unitB_of big (56320 + (p - 65536) % 1024) (by omega) (by omega)
    rw [e, hb, hb2]
    refine ⟨?_, by simp⟩
    show wsign big (x :: y :: z :: v :: r) = (p, 4)
    rw [wsign.eq_def]
    simp only
    rw [hu, hu2, if_neg (by omega), if_neg (by omega), if_neg (by omega)]
    congr 1
    omega
end Go.Proofs.YtmfjmgjhfplijaaGreatDoor

namespace Go.Proofs.YtmfjmgjhfplijaaGreatDoor
open Go.RowKit
set_option linter.unusedVariables false
set_option linter.unusedSimpArgs false

/-- no byte is 0. -/
def nz (l : List UInt8) : Bool := l.all (· != 0)
theorem nz_append (a b : List UInt8) : nz (a ++ b) = (nz a && nz b) := by simp [nz]
theorem nz_take {l : List UInt8} (k : Nat) (h : nz l = true) : nz (l.take k) = true := by
  unfold nz at h ⊢
  rw [List.all_eq_true] at h ⊢
  exact fun x hx => h x (List.mem_of_mem_take hx)
theorem nz_drop {l : List UInt8} (k : Nat) (h : nz l = true) : nz (l.drop k) = true := by
  unfold nz at h ⊢
  rw [List.all_eq_true] at h ⊢
  exact fun x hx => h x (List.mem_of_mem_drop hx)
theorem u8nz (z : Int) (h0 : 0 < z) (h1 : z < 256) : ((z.toNat.toUInt8) != 0) = true := by
  rw [bne_iff_ne]
  intro h
  have e := u8n z (by omega) h1
  rw [h] at e
  have : (0 : UInt8).toNat = 0 := rfl
  omega
theorem nz_encR (p : Int) (hp : Scal p) (h : p ≠ 0) : nz (encR p) = true := by
  obtain ⟨h0, h1, h2⟩ := hp
  unfold nz encR Lib.encodeRune
  by_cases a : p ≤ 127
  · rw [Lib.encodeRuneZ_one h0 a]
    simp only [List.map_cons, List.map_nil, List.all_cons, List.all_nil, Bool.and_true]
    exact u8nz p (by omega) (by omega)
  by_cases b : p ≤ 2047
  · rw [Lib.encodeRuneZ_two (by omega) b]
    simp only [List.map_cons, List.map_nil, List.all_cons, List.all_nil, Bool.and_true, Bool.and_eq_true]
    exact ⟨u8nz _ (by omega) (by omega), u8nz _ (by omega) (by omega)⟩
  by_cases c : p ≤ 65535
  · rw [Lib.encodeRuneZ_three (by omega)]
    simp only [List.map_cons, List.map_nil, List.all_cons, List.all_nil, Bool.and_true, Bool.and_eq_true]
    exact ⟨u8nz _ (by omega) (by omega), u8nz _ (by omega) (by omega), u8nz _ (by omega) (by omega)⟩
  · rw [Lib.encodeRuneZ_four (by omega) h1]
    simp only [List.map_cons, List.map_nil, List.all_cons, List.all_nil, Bool.and_true, Bool.and_eq_true]
    exact ⟨u8nz _ (by omega) (by omega), u8nz _ (by omega) (by omega), u8nz _ (by omega) (by omega), u8nz _ (by omega) (by omega)⟩
theorem nz_pts (t : List UInt8) (hv : (scanL t).2 = none) (h : nz t = true) : ∀ p ∈ pts t, Scal p ∧ p ≠ 0 := by
  obtain ⟨v1, v2⟩ := valid_enc t hv
  intro p hp
  refine ⟨v2 p hp, ?_⟩
  rintro rfl
  unfold nz at h
  rw [List.all_eq_true] at h
  have : (0 : UInt8) ∈ t := by
    rw [v1]
    unfold encL
    rw [List.mem_flatMap]
    exact ⟨0, hp, by decide +kernel⟩
  exact absurd (h 0 this) (by decide)

/-- a reader that makes no 0 of bytes without one. -/
def NZT (tok : Tok) : Prop := ∀ l t k, tok l = some (t, k) → nz l = true → nz t = true
theorem runT_nz {tok : Tok} (G : NZT tok) : ∀ (f : Nat) (l : List UInt8) (n : Nat) (acc u : List UInt8), nz l = true → nz acc = true → runT tok f l n acc = (u, none) → nz u = true := by
  intro f
  induction f with
  | zero => intro l n acc u hl h e; simp [runT] at e; rw [← e]; exact h
  | succ f ih =>
    intro l n acc u hl h e
    rw [runT] at e
    split at e
    · simp at e; rw [← e]; exact h
    · split at e
      · simp at e
      · next t k ht => exact ih _ _ _ _ (nz_drop k hl) (by rw [nz_append, h, G _ _ _ ht hl]; rfl) e

/-- signs in digits, none of which is 0. -/
def posHex : List UInt8 → Bool
  | a :: b :: c :: d :: _ :: r => decide (0 ≤ hexv a ∧ 0 ≤ hexv b ∧ 0 ≤ hexv c ∧ 0 ≤ hexv d ∧ 0 < hexv a + hexv b + hexv c + hexv d) && posHex r
  | _ => true
theorem hexAt_next (a b c d e : UInt8) (r : List UInt8) (k : Nat) : ∀ j, hexAt (a :: b :: c :: d :: e :: r) (k + 1) j = hexAt r k j := by
  intro j
  induction j with
  | zero => rfl
  | succ j ih =>
    rw [hexAt, hexAt, ih]
    have : (a :: b :: c :: d :: e :: r).getD ((k + 1) * 5 + j) 0 = r.getD (k * 5 + j) 0 := by
      rw [show (k + 1) * 5 + j = (k * 5 + j) + 1 + 1 + 1 + 1 + 1 by omega]
      simp only [List.getD_cons_succ]
    rw [this]
theorem posHex_at : ∀ (k : Nat) (l : List UInt8), posHex l = true → k < l.length / 5 → 0 < hexAt l k 4 := by
  intro k
  induction k with
  | zero =>
    intro l h hk
    match l, h, hk with
    | a :: b :: c :: d :: e :: r, h, _ =>
      rw [posHex, Bool.and_eq_true, decide_eq_true_eq] at h
      have h := h.1
      simp only [hexAt, Nat.zero_mul, Nat.zero_add, List.getD_cons_zero, List.getD_cons_succ]
      omega
    | [], _, hk => simp at hk
    | [_], _, hk => simp at hk
    | [_, _], _, hk => simp at hk
    | [_, _, _], _, hk => simp at hk
    | [_, _, _, _], _, hk => simp at hk
  | succ k ih =>
    intro l h hk
    match l, h, hk with
    | a :: b :: c :: d :: e :: r, h, hk =>
      rw [posHex, Bool.and_eq_true] at h
      rw [hexAt_next]
      exact ih r h.2 (by simp only [List.length_cons] at hk; omega)
    | [], _, hk => simp at hk
    | [_], _, hk => simp at hk
    | [_, _], _, hk => simp at hk
    | [_, _, _], _, hk => simp at hk
    | [_, _, _, _], _, hk => simp at hk
theorem atM_pos (l : List UInt8) (k : Int) (h : posHex l = true) (ha : (atM l k).2 = true) : 0 < (atM l k).1 := by
  unfold atM at ha ⊢
  simp only [Bool.not_eq_true', decide_eq_false_iff_not] at ha
  rw [if_neg ha]
  exact posHex_at _ l h (by omega)
theorem wRow_pos : posHex (bl (wRow 4)) = true ∧ posHex (bl (wRow 6)) = true ∧ posHex (bl (wRow 8)) = true := by refine ⟨?_, ?_, ?_⟩ <;> decide +kernel
theorem bStr_pos : ∀ i : Fin 11, posHex (bl (bStr i.val)) = true := by decide +kernel
theorem wRowL_pos (lead : Int) : posHex (bl (wRowL lead)) = true := by
  unfold wRowL
  split
  · exact wRow_pos.1
  · split
    · exact wRow_pos.2.1
    · split
      · exact wRow_pos.2.2
      · rfl
theorem wSpans_pos : ∀ s ∈ wSpans, 0 < s.2.1 := by decide
theorem otherM_pos (code : Int) (h : (otherM code).2 = true) : 0 < (otherM code).1 := by
  unfold otherM at h ⊢
  split
  · next c => rw [if_pos c] at h; cases h
  · next c =>
    rw [if_neg c] at h
    split
    · next d => rw [if_pos d] at h; exact atM_pos _ _ (wRowL_pos _) h
    · next d =>
      rw [if_neg d] at h
      cases hf : wSpans.find? (inSpan code) with
      | none => rw [hf] at h; cases h
      | some s =>
        have h1 := wSpans_pos s (List.mem_of_find?_eq_some hf)
        have h2 := List.find?_some hf
        unfold inSpan at h2
        rw [decide_eq_true_eq] at h2
        show 0 < s.2.1 + (code - s.1)
        omega
theorem chooseF_pos (within : Bool) : ∀ (f g k : Nat), (chooseF within f g k).2 = true → 0 < (chooseF within f g k).1 := by
  intro f
  induction f with
  | zero => intro g k h; cases h
  | succ f ih =>
    intro g k h
    rw [chooseF] at h ⊢
    split
    · next c => rw [if_pos c] at h; exact ih _ _ h
    · simp only; omega
theorem chooseM_pos (k : Int) (within : Bool) (h : (chooseM k within).2 = true) : 0 < (chooseM k within).1 := by
  unfold chooseM at h ⊢
  split
  · next c => rw [if_pos c] at h; cases h
  · next c => rw [if_neg c] at h; exact chooseF_pos _ _ _ _ h
theorem wSignM_pos (l s : Int) (h : (wSignM l s).2 = true) : 0 < (wSignM l s).1 := by
  unfold wSignM at h ⊢
  split
  · next c => rw [if_pos c] at h; cases h
  next c =>
  rw [if_neg c] at h
  split
  · next d =>
    rw [if_pos d] at h
    unfold rowM at h ⊢
    split
    · next e => rw [if_pos e] at h; cases h
    next e =>
    rw [if_neg e] at h
    split
    · next f => exact chooseM_pos _ _ f
    · next f => rw [if_neg f] at h; exact otherM_pos _ h
  next d =>
  rw [if_neg d] at h
  split
  · next e => rw [if_pos e] at h; cases h
  next e =>
  rw [if_neg e] at h
  split
  · next f => rw [if_pos f] at h; exact chooseM_pos _ _ h
  · next f => rw [if_neg f] at h; exact chooseM_pos _ _ h
theorem oneL_pos (lead c : Int) : ∀ l : List (Int × Int × ByteArray), (∀ s ∈ l, posHex (bl s.2.2) = true) → (oneL l lead c).2 = true → 0 < (oneL l lead c).1 := by
  intro l
  induction l with
  | nil => intro _ h; cases h
  | cons s l ih =>
    intro hp h
    have ih := ih fun x hx => hp x (by simp [hx])
    rw [oneL] at h ⊢
    split
    · next a =>
      rw [if_pos a] at h
      split
      · next b => exact atM_pos _ _ (hp s (by simp)) b
      · next b => rw [if_neg b] at h; exact ih h
    · next a => rw [if_neg a] at h; exact ih h
theorem bSpansOf_pos (S : Nat → ByteArray) (k : ∀ i, i < 11 → posHex (bl (S i)) = true) (s : Int × Int × ByteArray) (h : s ∈ bSpansOf S) : posHex (bl s.2.2) = true := by
  simp only [bSpansOf, List.mem_cons, List.not_mem_nil, or_false] at h
  rcases h with h | h | h | h | h | h | h | h | h | h | h
  all_goals (rw [h]; exact k _ (by decide))
theorem nz_text (p : Int) (h : p ≠ 0) : nz (textM [p]).1 = true := by
  unfold textM
  split
  · next hs =>
    simp only [List.flatMap_cons, List.flatMap_nil, List.append_nil]
    exact nz_encR p (scal_of (List.all_eq_true.1 hs p (by simp))) h
  · rfl
theorem twos_nz : ∀ s ∈ bTwos, nz (textM [s.2.1, s.2.2]).1 = true := by decide +kernel
theorem twosL_nz : ∀ (l : List (Int × Int × Int)) (a b : Int), (∀ s ∈ l, nz (textM [s.2.1, s.2.2]).1 = true) → nz (twosL l a b).1 = true := by
  intro l
  induction l with
  | nil => intro a b _; rfl
  | cons s l ih =>
    intro a b h
    rw [twosL]
    split
    · exact h s (by simp)
    · exact ih a b fun x hx => h x (by simp [hx])
theorem signs_nz (c l s : Int) : nz (signsM c l s) = true := by
  unfold signsM bSignsM
  split
  · split
    · next h => exact nz_text _ (by have := wSignM_pos l s h; omega)
    · rfl
  · split
    · split
      · next h => exact nz_text _ (by unfold signJB at h; simpa using h)
      · rfl
    · split
      · next h =>
        refine nz_text _ ?_
        unfold oneM at h ⊢
        split
        · next a => rw [if_pos a] at h; cases h
        · next a =>
          rw [if_neg a] at h
          have := oneL_pos l (b5cell s) bSpans (fun x hx => bSpansOf_pos bStr (fun i hi => bStr_pos ⟨i, hi⟩) x hx) h
          omega
      · exact twosL_nz _ _ _ twos_nz
def nzKG (KG : List Bool × List Int) : Bool := (List.range 256).all fun n => decide (n = 0) || decide (KG.2.getD n 0 ≠ 0)
theorem nzKG_all : (List.range 4).all (fun (c : Nat) => nzKG (kgM (setS (c : Int)))) = true := by decide +kernel
theorem nzt_C (c : Int) (h0 : 0 ≤ c) (h7 : c ≤ 7) : NZT (tokC c) := by
  intro l t k h hl
  by_cases h3 : c ≤ 3
  · rw [tokC_lo c h3] at h
    match l, h, hl with
    | b :: r, h, hl =>
      have hb : b ≠ 0 := by
        unfold nz at hl
        rw [List.all_cons, Bool.and_eq_true, bne_iff_ne] at hl
        exact hl.1
      obtain ⟨e1, e2⟩ := tok_good _ (good_at c h0 h3) b r
      rw [e1] at h
      simp only [Option.some.injEq, Prod.mk.injEq] at h
      rw [← h.1]
      refine nz_encR _ e2 ?_
      obtain ⟨n, rfl⟩ := Int.eq_ofNat_of_zero_le h0
      have h := List.all_eq_true.1 nzKG_all n (by simp; omega)
      unfold nzKG at h
      have h := List.all_eq_true.1 h b.toNat (by have := b.toNat_lt; simp; omega)
      rw [Bool.or_eq_true, decide_eq_true_eq, decide_eq_true_eq] at h
      rcases h with h | h
      · exact absurd (UInt8.toNat_inj.1 (h.trans (show 0 = (0 : UInt8).toNat from rfl))) hb
      · exact h
  · by_cases h6 : c ≤ 6
    · rw [tokC_two c (by omega) h6] at h
      unfold tok2 at h
      match l, h, hl with
      | [b], h, hl =>
        simp only [tokD] at h
        split at h
        · simp at h; rw [← h.1]; exact hl
        · cases h
      | b :: c' :: r, h, hl =>
        simp only [tokD] at h
        split at h
        · simp at h; rw [← h.1]
          unfold nz at hl ⊢
          rw [List.all_cons, Bool.and_eq_true] at hl
          simp [hl.1]
        · split at h
          · cases h
          · simp at h; rw [← h.1]; exact signs_nz _ _ _
    · obtain rfl : c = 7 := by omega
      rw [tokC_u] at h
      unfold tokU at h
      split at h
      · cases h
      · simp at h; rw [← h.1]; exact nz_take _ hl
theorem nz_C (c : Int) (h0 : 0 ≤ c) (h7 : c ≤ 7) (l t : List UInt8) (hl : nz l = true) (hd : decT (tokC c) l = (t, none)) : nz t = true :=
  runT_nz (nzt_C c h0 h7) _ l _ [] t hl rfl hd

/-- no unit is 0. -/
def nz2 : List UInt8 → Bool
  | a :: b :: r => !(a == 0 && b == 0) && nz2 r
  | _ => true
theorem unitI_nz (x y : UInt8) (big : Bool) (h : (x == 0 && y == 0) = false) : unitI x y big ≠ 0 := by
  intro h0
  have h1 : x.toNat = 0 ∧ y.toNat = 0 := by unfold unitI at h0; split at h0 <;> omega
  have e1 : x = 0 := UInt8.toNat_inj.1 h1.1
  have e2 : y = 0 := UInt8.toNat_inj.1 h1.2
  rw [e1, e2] at h
  cases h
theorem wsign_nz (big : Bool) (l : List UInt8) (h : nz2 l = true) (hz : (wsign big l).2 ≠ 0) : (wsign big l).1 ≠ 0 ∧ nz2 (l.drop (wsign big l).2) = true := by
  match l, h, hz with
  | [], _, hz => exact absurd rfl hz
  | [_], _, hz => exact absurd rfl hz
  | x :: y :: r, h, hz =>
    rw [nz2, Bool.and_eq_true, Bool.not_eq_true'] at h
    have hu := unitI_nz x y big h.1
    have hb := unitI_bd x y big
    rw [wsign.eq_def] at hz ⊢
    simp only at hz ⊢
    split
    · exact ⟨hu, h.2⟩
    · next c =>
      rw [if_neg c] at hz
      match r, h, hz with
      | [], _, hz => exact absurd rfl hz
      | [_], _, hz => exact absurd rfl hz
      | z :: u :: q, h, hz =>
        have hb2 := unitI_bd z u big
        simp only at hz ⊢
        have hq := h.2
        rw [nz2, Bool.and_eq_true] at hq
        split
        · next d => rw [if_pos d] at hz; exact absurd rfl hz
        · next d =>
          rw [if_neg d] at hz
          split
          · next e => rw [if_pos e] at hz; exact absurd rfl hz
          · exact ⟨by simp only; omega, hq.2⟩
theorem wsign_scal (big : Bool) (l : List UInt8) (h : (wsign big l).2 ≠ 0) : Scal (wsign big l).1 := by
  rw [wsign_units] at h ⊢
  exact wsignU_scal _ (unitsL_bd big l) h
theorem runW_nz (big : Bool) : ∀ (f : Nat) (l : List UInt8) (n : Nat) (acc u : List UInt8), nz2 l = true → nz acc = true → runT (tokW big) f l n acc = (u, none) → nz u = true := by
  intro f
  induction f with
  | zero => intro l n acc u hl h e; simp [runT] at e; rw [← e]; exact h
  | succ f ih =>
    intro l n acc u hl h e
    rw [runT] at e
    split at e
    · simp at e; rw [← e]; exact h
    · split at e
      · simp at e
      · next t k ht =>
        unfold tokW at ht
        split at ht
        · cases ht
        · next hz =>
          simp only [Option.some.injEq, Prod.mk.injEq] at ht
          obtain ⟨rfl, rfl⟩ := ht
          obtain ⟨h1, h2⟩ := wsign_nz big l hl hz
          exact ih _ _ _ _ h2 (by rw [nz_append, h, nz_encR _ (wsign_scal big l hz) h1]; rfl) e
theorem nz_W (big : Bool) (l t : List UInt8) (hl : nz2 l = true) (hd : decT (tokW big) l = (t, none)) : nz t = true :=
  runW_nz big _ l _ [] t hl rfl hd
theorem nz_nz2 : ∀ l : List UInt8, nz l = true → nz2 l = true
  | [], _ => rfl
  | [_], _ => rfl
  | a :: b :: r, h => by
    unfold nz at h
    rw [List.all_cons, List.all_cons, Bool.and_eq_true, Bool.and_eq_true, bne_iff_ne] at h
    rw [nz2, nz_nz2 r h.2.2, Bool.and_true, Bool.not_eq_true', Bool.and_eq_false_iff, beq_eq_false_iff_ne]
    exact .inl h.1
/-- what is decoded, in any charset, of bytes without a 0 has none. -/
theorem nz_any (c : Int) (h0 : 0 ≤ c) (l t : List UInt8) (hl : nz l = true) (hd : decT (tokC c) l = (t, none)) : nz t = true := by
  by_cases h7 : c ≤ 7
  · exact nz_C c h0 h7 l t hl hd
  · rw [tokC_w c (by omega)] at hd
    exact nz_W _ l t (nz_nz2 l hl) hd
end Go.Proofs.YtmfjmgjhfplijaaGreatDoor

