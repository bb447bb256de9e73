/- A slice of numbers among a law's arguments; charset.Tryz. -/
import Derived.Test.YtbijjomknbnmfaaGreatDoorFr
import Derived.Test.YtbijjomknbnmfaaGreatDoorRq
namespace Go.Proofs.YtbijjomknbnmfaaGreatDoor
open Go.ChangeShapes Go.WideShapes Go.ChangeAt Go.RowKit Go.ChangeMaps
set_option linter.unusedVariables false
set_option linter.unusedSimpArgs false

theorem open_row {H : Type} {enc : TypeId × Value → H} {P : Program} {W : World} {r : Reach} {b0 : Nat} {t e : TypeId} {k : IntKind} {v : Value} {d : DataW H} {ps : List MemPlace}
    (ht : P.underlying t = some (.slice e)) (he : P.underlying e = some (.int k)) (hc : P.cellsOf e = 1) (hval : Value.okWide P W r b0 t v) (hd : DataW.Trod enc P W 0 (fun _ => true) true t v d ps) :
    ∃ zs : List Int, (∀ n ∈ zs, (Lit.int k n).wf = true) ∧ zs.length ≤ maxLen ∧ Row W v zs.length (zs.map fun n => Value.int k n) ∧
      ∀ W', Below W.heap.size W W' → ∃ ps', DataW.Trod enc P W' 0 (fun b => decide (b < W.heap.size)) true t v d ps' := by
  obtain ⟨a0, len, cap, rfl⟩ := okWide_slice ht hval
  obtain ⟨fuel, hf⟩ := hd
  rcases open_ints ht he hc hf with ⟨hcs, hx⟩ | ⟨a, len', cap', zs, hcs, _, hl, hm, hz, hx, hcell, hwz⟩
  · simp [Value.cells] at hcs
    obtain ⟨rfl, rfl, rfl⟩ := hcs
    simp only [Prod.mk.injEq] at hx
    obtain ⟨rfl, rfl⟩ := hx
    exact ⟨[], fun n h => (by cases h), Nat.zero_le _, ⟨none, 0, rfl, fun j x h => (by simp at h)⟩, fun W' _ => ⟨[], shut_slice_nil ht⟩⟩
  · simp [Value.cells] at hcs
    obtain ⟨rfl, rfl, rfl⟩ := hcs
    simp only [Prod.mk.injEq] at hx
    obtain ⟨rfl, rfl⟩ := hx
    simp only [if_true] at hz
    have hlz : len ≤ zs.length := by omega
    have htl : (zs.take len).length = len := by rw [List.length_take]; omega
    refine ⟨zs.take len, fun n h => hwz n (List.mem_of_mem_take h), by omega, ?_, ?_⟩
    · rw [htl]
      refine ⟨some a, cap, rfl, fun j x hj => ?_⟩
      have hjl : j < len := by
        have := (List.getElem?_eq_some_iff.1 hj).1
        rw [List.length_map, htl] at this
        exact this
      obtain ⟨b, off, rfl, hk⟩ := ints_at hcell (by omega)
      refine ⟨b, off, rfl, ?_⟩
      rw [hk j (by omega)]
      rw [List.getElem?_map, List.getElem?_take_of_lt hjl] at hj
      rw [List.getD_eq_getElem?_getD]
      cases hz2 : zs[j]? with
      | none => rw [hz2] at hj; cases hj
      | some y => rw [hz2] at hj; exact hj
    · intro W' hB
      have hcell' : ∀ i, i < zs.length → W'.cell? (a.add i) = some (.int k (zs.getD i 0)) := by
        intro i hi
        obtain ⟨b, off, rfl, hk⟩ := ints_at hcell (by omega)
        rw [Go.WideShapes.add_plain]
        exact kc hB (hk i hi)
      have hz' : zs.length = if decide (a.block < W.heap.size) = true then cap else len := by
        by_cases h0 : 0 < zs.length
        · obtain ⟨b, off, rfl, hk⟩ := ints_at hcell h0
          have := cell_lt (hk 0 h0)
          rw [if_pos (by simpa using this)]
          exact hz
        · split <;> omega
      exact ⟨_, 2, shut_ints 0 ht he hc (Nat.zero_le _) hl hm hz' hcell' hwz⟩
end Go.Proofs.YtbijjomknbnmfaaGreatDoor
namespace Go.Proofs.YtbijjomknbnmfaaGreatDoor
open Go.RowKit
set_option linter.unusedVariables false
set_option linter.unusedSimpArgs false

theorem infoCs : (Tryz.prog.info? 28).map (fun i => (i.zero, i.size, i.bytes)) = some (some (.int .i64 0), 1, 8) := by kernel_rfl
theorem ccells_append (l m : List Int) : ccells (l ++ m) = ccells l ++ ccells m := by simp [ccells]
/-- the slice v owns the charsets l, in a block from B on. -/
def OwnC (w : World) (B : Nat) (v : Value) (l : List Int) : Prop := w.ownsRow B 28 1 v l.length (ccells l)
theorem OwnC.row {w : World} {B : Nat} {v : Value} {l : List Int} (h : OwnC w B v l) : Row w v l.length (ccells l) := row_owns h
theorem OwnC.bel {w w' : World} {B : Nat} {v : Value} {l : List Int} (h : OwnC w B v l) (hb : Below w.heap.size w w') : OwnC w' B v l := orow_bel h hb
theorem OwnC.add {w : World} {B : Nat} {v : Value} {l : List Int} {c : Int} (h : w.ownsRow B 28 1 v (l.length + 1) (ccells l ++ [.int .i64 c])) : OwnC w B v (l ++ [c]) := by
  unfold OwnC
  rw [ccells_append, List.length_append]
  exact h
/-- are bytes a text in a charset? -/
noncomputable def okC (c : Int) (l : List UInt8) : Bool := decide (0 ≤ c ∧ c ≤ 9) && (decT (tokC c) l).2.isNone
theorem decV_form (c : Int) (l : List UInt8) : ∃ (u : ByteArray) (a b : Int), decV c l = .tuple #[.string u, .agg #[.int .i64 a, .int .i64 b]] ∧ (!decide (a = 0)) = !okC c l := by
  unfold decV okC
  by_cases h : 0 ≤ c ∧ c ≤ 9
  · rw [if_pos h, decide_eq_true h]
    cases (decT (tokC c) l).2 with
    | none => exact ⟨_, _, _, rfl, rfl⟩
    | some k => exact ⟨_, _, _, rfl, rfl⟩
  · rw [if_neg h, decide_eq_false h]
    exact ⟨_, _, _, rfl, rfl⟩
theorem dec9_form (c : Int) (l : List UInt8) : ∃ (u : ByteArray) (a b : Int), dec9V c l = .tuple #[.string u, .int .i64 a, .int .i64 b] ∧ decide (a = 0) = okC c l := by
  unfold dec9V okC dec9R
  by_cases h : 0 ≤ c ∧ c ≤ 9
  · rw [if_pos h, decide_eq_true h]
    cases (decT (tokC c) l).2 with
    | none => exact ⟨_, _, _, rfl, rfl⟩
    | some k => exact ⟨_, _, _, rfl, rfl⟩
  · rw [if_neg h, decide_eq_false h]
    exact ⟨_, _, _, rfl, rfl⟩
set_option maxRecDepth 100000 in
set_option maxHeartbeats 4000000 in
theorem try_any (b : ByteArray) (v : Value) (l : List Int) (w : World) (hT : TW w) (hb : b.size ≤ 1048576) (hrow : Row w v l.length (ccells l)) (hl : l.length ≤ 1000000) :
    Calls Tryz.prog 25 #[.string b, v] w fun e w' => ∃ v', e = .returned v' ∧ OwnC w' w.heap.size v' (l.filter fun c => okC c (bl b)) ∧ Below w.heap.size w w' := by
  obtain ⟨S, hS⟩ : ∃ S : Int → Bool, S = fun c => okC c (bl b) := ⟨_, rfl⟩
  rw [← hS]
  have K1 : Hid (∀ c, ∃ (u : ByteArray) (x y : Int), (∀ w, TW w → Calls Tryz.prog 16 #[.int .i64 c, .string b] w fun e w' => e = .returned (.tuple #[.string u, .agg #[.int .i64 x, .int .i64 y]]) ∧ Below w.heap.size w w') ∧ (!decide (x = 0)) = !S c) := by
    intro c
    obtain ⟨u, x, y, e1, e2⟩ := decV_form c (bl b)
    refine ⟨u, x, y, fun w hT => ?_, by rw [e2, hS]⟩
    have := cdecode_any c b w hT (by omega)
    rw [e1] at this
    exact this
  have K2 := Lib.hid bad_any
  obtain ⟨n, hn⟩ : ∃ n, n = l.length := ⟨_, rfl⟩
  rw [← hn] at hrow hl
  obtain ⟨a, cap, rfl, hc⟩ := hrow
  have HT := Lib.hid hT
  have HC := Lib.hid hc
  have HN := Lib.hid hn
  clear hT hc hn
  clear hS
  go_enter Tryz.func25, Tryz.ntmps25
  go_wp2
  go_loopw [5, 12] (fun rv iv wr => ∃ (i : Nat) (acc : List Int), iv = .int .i64 (i : Int) ∧ OwnC wr w.heap.size rv acc ∧ i ≤ n ∧ acc.length ≤ i ∧ Hid (acc ++ (l.drop i).filter S = l.filter S) ∧ Below w.heap.size w wr) (fun _ iv _ => n - (intOf iv).toNat)
  case atStart => exact ⟨0, [], rfl, World.ownsRow_nil _ _ _ _, Nat.zero_le _, Nat.le_refl _, Lib.hid rfl, Below.refl _ _⟩
  case round =>
    obtain ⟨i, acc, rfl, hown, hi, hacc, hQ, hbel⟩ := hrel
    by_cases hlt : i < n
    · obtain ⟨c, hcc⟩ := at_some l i (by rw [← HN.out]; exact hlt)
      obtain ⟨g, o, rfl, hcell⟩ := HC.out i (.int .i64 c) (by simp [ccells, hcc])
      have hcell := kc hbel hcell
      have hdr : l.drop i = c :: l.drop (i + 1) := by
        obtain ⟨h1, h2⟩ := List.getElem?_eq_some_iff.1 hcc
        rw [List.drop_eq_getElem_cons h1, h2]
      have hq := hQ.out
      rw [hdr, List.filter_cons] at hq
      obtain ⟨u, x, y, k1, k2⟩ := K1.out c
      have k3 := fun w => K2.out x y w
      rw [k2] at k3
      clear hdr hQ hcc k2
      cases hs : S c with
      | false =>
        rw [hs, if_neg (by decide)] at hq
        rw [hs] at k3
        have K1' := Lib.hid k1
        have K3 := Lib.hid k3
        have HQ := Lib.hid hq
        clear k1 k3 hq
        clear hs
        go_wp2_with (first
          | (go_at_call 16; refine (K1'.out _ (HT.out.bel hbel)).mono ?_; rintro e w1 ⟨rfl, hb1⟩)
          | (go_at_call 17; refine (K3.out _).mono ?_; rintro e w2 ⟨rfl, hb2⟩))
        have hbx := bt (bt hbel hb1) ((Below.refl w1.heap.size w1).alloc (Nat.le_refl _) (.cells #[.int .i64 x, .int .i64 y] 25))
        have hby := bt hbx hb2
        have hbz := bt (bt hb1 ((Below.refl w1.heap.size w1).alloc (Nat.le_refl _) (.cells #[.int .i64 x, .int .i64 y] 25))) hb2
        go_roundw
        case rel => exact ⟨i + 1, acc, by go_num, OwnC.bel hown hbz, by omega, by omega, HQ, hby⟩
        case measure => simp [intOf]; omega
      | true =>
        rw [hs, if_pos rfl] at hq
        rw [hs] at k3
        have hq2 : (acc ++ [c]) ++ (l.drop (i + 1)).filter S = l.filter S := by rw [List.append_assoc]; exact hq
        have K1' := Lib.hid k1
        have K3 := Lib.hid k3
        have HQ := Lib.hid hq2
        clear k1 k3 hq2
        clear hs hq
        go_wp2_with (first
          | (at_builtin; go_loud (refine wpList_push1 rfl _ _ 40 28 rfl Tryz.underlying40 (.int .i64 0) 1 8 infoCs rfl (by decide) w2 w.heap.size u5 acc.length (ccells acc) rfl hown2 #[.int .i64 c] rfl (by simp [Value.oneCell']) rfl (by omega) (by omega) hby.size ?_; intro v' w4 hown4 hb4 hk4))
          | (go_at_call 16; refine (K1'.out _ (HT.out.bel hbel)).mono ?_; rintro e w1 ⟨rfl, hb1⟩)
          | (go_at_call 17; refine (K3.out _).mono ?_; rintro e w2 ⟨rfl, hb2⟩
             have hbx := bt (bt hbel hb1) ((Below.refl w1.heap.size w1).alloc (Nat.le_refl _) (.cells #[.int .i64 x, .int .i64 y] 25))
             have hby := bt hbx hb2
             have hbz := bt (bt hb1 ((Below.refl w1.heap.size w1).alloc (Nat.le_refl _) (.cells #[.int .i64 x, .int .i64 y] 25))) hb2
             have hown2 := OwnC.bel hown hbz))
        go_roundw
        case rel => exact ⟨i + 1, acc ++ [c], by go_num, OwnC.add hown4, by omega, by rw [List.length_append]; simp; omega, HQ, hby.trans hb4⟩
        case measure => simp [intOf]; omega
    · have hin : i = n := by omega
      subst hin
      have e1 := hQ.out
      rw [List.drop_of_length_le (by rw [← HN.out]; exact Nat.le_refl _), List.filter_nil, List.append_nil] at e1
      have E1 := Lib.hid e1
      clear e1
      clear hQ
      go_wp2
      go_ret
      exact ⟨_, rfl, by rw [← E1.out]; exact hown, hbel⟩
end Go.Proofs.YtbijjomknbnmfaaGreatDoor
