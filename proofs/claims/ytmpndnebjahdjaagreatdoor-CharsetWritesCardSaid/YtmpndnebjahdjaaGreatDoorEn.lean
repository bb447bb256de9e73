/- Walk: charset.encodeTwo, whatever the bytes of a sign. -/
import Derived.Test.YtmpndnebjahdjaaGreatDoorCi
import Derived.Test.YtmpndnebjahdjaaGreatDoorSk
import Derived.Test.YtmpndnebjahdjaaGreatDoorPo
namespace Go.Proofs.YtmpndnebjahdjaaGreatDoor
open Go.RowKit
set_option linter.unusedVariables false
set_option linter.unusedSimpArgs false

/-- a reader of signs that have bytes. -/
def tokB (B : Int → List UInt8) : Tok := fun l => if (dec l).1 < 128 then some ([UInt8.ofNat (dec l).1], (dec l).2) else if B (dec l).1 = [] then none else some (B (dec l).1, (dec l).2)
/-- what encodeTwo answers. -/
def encB (B : Int → List UInt8) (l : List UInt8) : Value := match (scanL l).2 with
  | some k => .tuple #[.string ⟨#[]⟩, faultV (some k)]
  | none => .tuple #[.string ⟨(decT (tokB B) l).1.toArray⟩, faultE (decT (tokB B) l).2]
def bMemo (B : Int → List UInt8) : Value → Value
  | .int .i32 p => .agg #[.string ⟨(B p).toArray⟩]
  | v => v
/-- the bytes of a sign, as a call tells them. -/
def TellsB (c : Int) (B : Int → List UInt8) (l : List UInt8) : Prop := ∀ (k p : Nat) (w : World), k < l.length → (dec (l.drop k)).1 = p → 128 ≤ p → TW w →
  (c = 4 → Calls Tryz.prog 102 #[.int .i32 (p : Int)] w fun e w' => (∃ ok : Bool, e = .returned (.tuple #[.string ⟨(B p).toArray⟩, .bool ok])) ∧ Below w.heap.size w w') ∧
  (¬ c = 4 → Calls Tryz.prog 103 #[.int .i32 (p : Int)] w fun e w' => (∃ ok : Bool, e = .returned (.tuple #[.string ⟨(B p).toArray⟩, .bool ok])) ∧ Below w.heap.size w w')

set_option maxRecDepth 100000 in
set_option maxHeartbeats 8000000 in
theorem encodeTwo_bad (c : Int) (B : Int → List UInt8) (b : ByteArray) (w : World) (hT : TW w) (hb : b.size ≤ 1073741824) (num k : Nat) (hsc : scanL (bl b) = (num, some k)) :
    Calls Tryz.prog 44 #[.int .i64 c, .string b] w (EncPost (encB B (bl b)) w) := by
  have k1 := fun w hT => check_any b w hT (by omega)
  have k2 := fun a b w => bad_any a b w
  have e0 : encB B (bl b) = .tuple #[.string ⟨#[]⟩, .agg #[.int .i64 2, .int .i64 k]] := by unfold encB; rw [hsc]; rfl
  rw [e0]
  rw [hsc] at k1
  simp only [faultV] at k1
  have hb0 := bal (Below.refl w.heap.size w) (.cells #[.int .i64 0, .int .i64 0] 25)
  have l0 := Live.fresh w #[.int .i64 0, .int .i64 0] 25 0 _ rfl
  have l1 := Live.fresh w #[.int .i64 0, .int .i64 0] 25 1 _ rfl
  have K1 := Lib.hid k1
  have K2 := Lib.hid k2
  have HB0 := Lib.hid hb0
  have L0 := Lib.hid l0
  have L1 := Lib.hid l1
  have HT := Lib.hid hT
  clear k1 k2 hb0 l0 l1 hT
  clear hsc e0
  go_enter Tryz.func44, Tryz.ntmps44
  go_wp2_with fail
  refine (K1.out _ (HT.out.bel HB0.out)).mono ?_
  rintro e w1 ⟨rfl, hb1⟩
  go_wp2_with (go_at_call 16; refine (K2.out _ _ _).mono ?_; rintro e w2 ⟨rfl, hb2⟩)
  have q0 := (Live.fresh w1 #[.int .i64 2, .int .i64 k] 25 0 _ rfl).keep hb2
  have q1 := (Live.fresh w1 #[.int .i64 2, .int .i64 k] 25 1 _ rfl).keep hb2
  have p0 := ((L0.out.keep hb1).alloc (.cells #[.int .i64 2, .int .i64 k] 25)).keep hb2
  have p1 := ((L1.out.keep hb1).alloc (.cells #[.int .i64 2, .int .i64 k] 25)).keep hb2
  have hbw : Below w.heap.size w w2 := HB0.out.trans ((bt (bal (bt (Below.refl _ _) hb1) _) hb2).mono HB0.out.size)
  clear hb1 hb2
  have g0 := fun x : Grown w2 => x.cell q0.1
  have g1 := fun x : Grown w2 => x.cell q1.1
  refine wp_region_grown_tail 2 (by kernel_rfl) (by kernel_rfl) ?_
  simp only [List.take_succ_cons, List.take_zero, List.drop_succ_cons, List.drop_zero]
  repeat (first | go_big_quiet_step (fail) | quiet_step (fail))
  refine wpQuiet_nil ?_
  intro _ hw'
  obtain ⟨xg, rfl⟩ := hw'
  obtain ⟨a1, a2⟩ := p0.keep xg.bel
  obtain ⟨a3, a4⟩ := p1.keep xg.bel
  have hbx := hbw.trans (xg.bel.mono hbw.size)
  clear g0 g1
  generalize xg.wd = W at *
  go_wp2_with fail
  refine bodyPost_ret (v := .tuple #[.string ⟨#[]⟩, .agg #[.int .i64 2, .int .i64 k]]) (by simp [results, Tryz.results44, go_sem, a1, a2, a3, a4]) rfl ?_
  exact (show EncPost _ _ _ _ from ⟨rfl, (hbx.setCell (Nat.le_refl _) _).setCell (Nat.le_refl _) _⟩)

set_option maxRecDepth 100000 in
set_option maxHeartbeats 8000000 in
theorem encodeTwo_good (c : Int) (B : Int → List UInt8) (hBl : ∀ p, (B p).length ≤ 1024) (b : ByteArray) (hB : TellsB c B (bl b)) (w : World) (hT : TW w) (hb : b.size ≤ 1073741824) (num : Nat) (hsc : scanL (bl b) = (num, none)) :
    Calls Tryz.prog 44 #[.int .i64 c, .string b] w (EncPost (encB B (bl b)) w) := by
  have k1 := fun w hT => check_any b w hT (by omega)
  have k2 := fun a b w => bad_any a b w
  have e0 : encB B (bl b) = .tuple #[.string ⟨(decT (tokB B) (bl b)).1.toArray⟩, faultE (decT (tokB B) (bl b)).2] := by unfold encB; rw [hsc]
  rw [e0]
  rw [hsc] at k1
  simp only [faultV] at k1
  obtain ⟨D, hD⟩ : ∃ D, D = decT (tokB B) (bl b) := ⟨_, rfl⟩
  rw [← hD]
  have hb0 := bal (Below.refl w.heap.size w) (.cells #[.int .i64 0, .int .i64 0] 25)
  have l0 := Live.fresh w #[.int .i64 0, .int .i64 0] 25 0 _ rfl
  have l1 := Live.fresh w #[.int .i64 0, .int .i64 0] 25 1 _ rfl
  have K1 := Lib.hid k1
  have K2 := Lib.hid k2
  have HB0 := Lib.hid hb0
  have L0 := Lib.hid l0
  have L1 := Lib.hid l1
  have HT := Lib.hid hT
  have HD := Lib.hid hD
  have KB := Lib.hid hB
  have HBB := Lib.hid hBl
  clear k1 k2 hb0 l0 l1 hT hD hB hBl
  clear hsc e0
  have HBL : Hid ((bl b).length = b.size) := bl_length b
  go_enter Tryz.func44, Tryz.ntmps44
  go_wp2_with fail
  refine (K1.out _ (HT.out.bel HB0.out)).mono ?_
  rintro e w1 ⟨rfl, hb1⟩
  go_wp2_with (first
    | (go_at_call 16; refine (K2.out _ _ _).mono ?_; rintro e w2 ⟨rfl, hb2⟩)
    | (refine wpList_mapNew rfl _ rfl _ ?_))
  have hbw : Below w.heap.size w w2 := HB0.out.trans ((bt (bal (bt (Below.refl _ _) hb1) _) hb2).mono HB0.out.size)
  have p0 := ((L0.out.keep hb1).alloc (.cells #[.int .i64 0, .int .i64 0] 25)).keep hb2
  have p1 := ((L1.out.keep hb1).alloc (.cells #[.int .i64 0, .int .i64 0] 25)).keep hb2
  have hM0 := MemoG.made 21 (bMemo B) w2
  have hbi : Below (w2.alloc (.map #[] 0)).heap.size (w2.alloc (.map #[] 0)) ((w2.alloc (.map #[] 0)).iter b 0) := (Below.refl _ _).alloc (Nat.le_refl _) _
  have hI0 := ItS.made (w2.alloc (.map #[] 0)) b
  have hM1 := hM0.bel hbi
  have hB1 : Below w2.heap.size w2 ((w2.alloc (.map #[] 0)).iter b 0) := bt (bal (Below.refl _ _) _) hbi
  have hrs : (w2.alloc (.map #[] 0)).heap.size = w2.heap.size + 1 := World.size_alloc _ _
  generalize (w2.alloc (.map #[] 0)).iter b 0 = W0 at *
  rw [hrs] at hI0
  have hW0 : w2.heap.size + 2 ≤ W0.heap.size := hI0.lt
  have hr0 := p0.keep hB1
  have hr1 := p1.keep hB1
  have hbw0 := hbw.trans (hB1.mono hbw.size)
  have hlw := p0.lt
  have R0 := Lib.hid hr0
  have R1 := Lib.hid hr1
  have HBW0 := Lib.hid hbw0
  clear hr0 hr1 hbw0
  clear hbi hM0 hrs hb1 hb2 p0 p1 hB1
  go_loopw [8] (fun v wr => ∃ (f k : Nat) (acc : List UInt8), Hid (Own wr (w2.heap.size + 2) v acc) ∧ ItS wr (w2.heap.size + 1) b k ∧ k ≤ b.size ∧ acc.length ≤ 1024 * k ∧ b.size - k ≤ f ∧ Hid (runT (tokB B) f ((bl b).drop k) k acc = D) ∧ Hid (MemoG 21 (bMemo B) wr w2.heap.size) ∧
      Hid (∀ j, j < w2.heap.size → wr.heap[j]? = W0.heap[j]?) ∧ Below w2.heap.size W0 wr) (fun _ wr => b.size - wr.iterPos (w2.heap.size + 1))
  case atStart => exact ⟨b.size, 0, [], Lib.hid (Own.nil _ _), hI0, Nat.zero_le _, by simp, by omega, by have := HD.out; unfold decT at this; rw [HBL.out] at this; rw [List.drop_zero]; exact Lib.hid this.symm, Lib.hid hM1, Lib.hid (fun _ _ => rfl), Below.refl _ _⟩
  case round =>
    obtain ⟨f, k, acc, hown, hI, hk, hacc, hf, hRT, hMw, hkp, hbel⟩ := hrel
    have hne := hI.ne hown.out
    have hpos := hI.pos
    have hsz := hbel.size
    have hown3 : ∀ w' : World, (∀ j, j ≠ w2.heap.size + 1 → w'.heap[j]? = wr.heap[j]?) → Own w' (w2.heap.size + 2) _ acc := fun w' h => orow_other hown.out (fun q hq => h q (fun e => hne (by rw [hq, e])))
    have hz : ∀ (w' : World), (∀ j, j < w2.heap.size → w'.heap[j]? = wr.heap[j]?) → Live w' w.heap.size 0 (.int .i64 0) ∧ Live w' w.heap.size 1 (.int .i64 0) := fun w' h =>
      ⟨R0.out.blk ((h _ hlw).trans (hkp.out _ hlw)), R1.out.blk ((h _ hlw).trans (hkp.out _ hlw))⟩
    have HPOS := Lib.hid hpos
    have HNE := Lib.hid hne
    have HO3 := Lib.hid hown3
    have HZ := Lib.hid hz
    clear hpos hne hown3 hz
    by_cases hlt : k < b.size
    · obtain ⟨f, rfl⟩ : ∃ g, f = g + 1 := ⟨f - 1, by omega⟩
      rcases hd : dec ((bl b).drop k) with ⟨p, j⟩
      have hdp := dec_pos ((bl b).drop k)
      have hdr := dec_rune ((bl b).drop k)
      have hne2 : (bl b).drop k ≠ [] := drop_ne (by rw [HBL.out]; exact hlt)
      have hdl := dec_le _ hne2
      have ht : tokB B ((bl b).drop k) = if (dec ((bl b).drop k)).1 < 128 then some ([UInt8.ofNat (dec ((bl b).drop k)).1], (dec ((bl b).drop k)).2) else if B (dec ((bl b).drop k)).1 = [] then none else some (B (dec ((bl b).drop k)).1, (dec ((bl b).drop k)).2) := rfl
      rw [List.length_drop, HBL.out] at hdl
      rw [hd] at hdp hdr hdl ht
      simp only at hdp hdr hdl ht
      by_cases hp : p < 128
      · rw [if_pos hp] at ht
        have e1 := runT_some (tok := tokB B) f _ k acc _ _ hne2 ht
        rw [hRT.out, List.drop_drop] at e1
        have hwrap : IntKind.u8.wrap (p : Int) = (p : Int) := wraps_u8 _ (by omega) (by omega)
        have hcu : (UInt8.ofNat p).toNat = p := by rw [UInt8.toNat_ofNat']; omega
        have E1 := Lib.hid e1
        have HDC := Lib.hid hd
        have HCU := Lib.hid hcu
        clear e1 hd hcu
        clear ht hne2 hRT
        go_wp2_with (first
          | (at_next; refine wpList_nextD rfl _ rfl wr (w2.heap.size + 1) b k rfl hI hlt p j HDC ?_; intro w3 hI3 ho3 hg3; have hs3 := hg3.size; have z1 : w.heap.size < w3.heap.size := (by omega); have hM3 := hMw.out.blk (ho3 w2.heap.size (by omega)); obtain ⟨⟨a1, a2⟩, ⟨a3, a4⟩⟩ := HZ.out w3 (fun j hj => ho3 j (by omega)))
          | (at_builtin; go_loud (refine wpList_push1 rfl _ _ 150 5 rfl Tryz.underlying150 (.int .u8 0) 1 1 infoByte rfl (by decide) w3 (w2.heap.size + 2) u8 acc.length (bcells acc) rfl (HO3.out w3 ho3) #[.int .u8 (p : Int)] rfl (by simp [Value.oneCell']) rfl (by omega) (by omega) (by omega) ?_; intro v' w4 hown4 hb4 hk4)))
        have hI4 := hI3.blk (hk4 _ hI3.lt HNE.out)
        have hown5 : Own w4 (w2.heap.size + 2) v' (acc ++ [UInt8.ofNat p]) := by
          unfold Own
          rw [bcells_append, List.length_append, show bcells [UInt8.ofNat p] = [.int .u8 (p : Int)] by simp only [bcells, List.map_cons, List.map_nil, HCU.out]]
          exact hown4
        have hB3 : Below w2.heap.size W0 w3 := hbel.grown hg3 (by omega) (by intro q hq; cases hq; omega)
        have hB4 := hB3.trans (hb4.mono (by omega))
        exact ⟨⟨f, k + j, acc ++ [UInt8.ofNat p], Lib.hid hown5, hI4, by omega, by rw [List.length_append]; simp; omega, by omega, Lib.hid E1.out.symm, Lib.hid (hM3.blk (hb4.block _ (by omega))), Lib.hid (fun q hq => (hb4.block q (by omega)).trans ((ho3 q (by omega)).trans (hkp.out q hq))), hB4⟩, by rw [HPOS.out, hI4.pos]; omega⟩
      · obtain ⟨tb, htb⟩ : ∃ tb : ByteArray, tb = ⟨(B p).toArray⟩ := ⟨_, rfl⟩
        have hbt : bl tb = B p := by rw [htb]
        have htl : tb.size ≤ 1024 := by rw [← bl_length, hbt]; exact HBB.out p
        have HF : Hid (bMemo B (.int .i32 p) = .agg #[.string tb]) := Lib.hid (by rw [htb]; rfl)
        have hkey := keyR p (by omega) (by omega)
        rw [if_neg hp, ← hbt] at ht
        have hKB := fun w hT => KB.out k p w (by rw [HBL.out]; exact hlt) (by rw [hd]) (by omega) hT
        rw [← htb] at hKB
        have HKEY := Lib.hid hkey
        have HKB := Lib.hid hKB
        clear hkey hKB
        clear hbt htb
        by_cases c4 : c = 4
        · have d4 : (c == 4) = true := by simpa using c4
          have KC := Lib.hid (fun w hT => (HKB.out w hT).1 c4)
          by_cases hsn : bl tb = []
          · have hse : tb.toList.isEmpty = true := by rw [ByteArray.toList_eq]; simpa using hsn
            rw [if_pos hsn] at ht
            have e1 := runT_none (tok := tokB B) f _ k acc hne2 ht
            rw [hRT.out] at e1
            have E1 := Lib.hid e1
            have HDC := Lib.hid hd
            have HSN := Lib.hid hsn
            clear e1 hd hsn
            clear ht hne2 hRT c4
            go_wp2_with (first
              | (at_next; refine wpList_nextD rfl _ rfl wr (w2.heap.size + 1) b k rfl hI hlt p j HDC ?_; intro w3 hI3 ho3 hg3; have hs3 := hg3.size; have z1 : w.heap.size < w3.heap.size := (by omega); have hM3 := hMw.out.blk (ho3 w2.heap.size (by omega)); obtain ⟨⟨a1, a2⟩, ⟨a3, a4⟩⟩ := HZ.out w3 (fun j hj => ho3 j (by omega)))
              | (at_lookup; go_loud (refine wpList_lookG w3 rfl 151 _ _ rfl 21 153 keyedR Tryz.underlying151 (.agg #[.string ⟨#[]⟩]) (zeroTold w3) (bMemo B) w2.heap.size rfl hM3 (.int .i32 p) _ rfl HKEY.out (.agg #[.string tb]) HF ?_ ?_)))
            · have hB3 : Below w2.heap.size W0 w3 := hbel.grown hg3 (by omega) (by intro q hq; cases hq; omega)
              have hbw3 := HBW0.out.trans (hB3.mono (by omega))
              refine (KC.out _ ((HT.out.bel hbw3).alloc _)).mono ?_
              rintro e w5 ⟨⟨ok, rfl⟩, hb5⟩
              have hb35 := bt (bal (Below.refl w3.heap.size w3) (.cells #[.string ⟨#[]⟩] 153)) hb5
              obtain ⟨c0, c0'⟩ := (Live.fresh w3 #[.string ⟨#[]⟩] 153 0 _ rfl).keep hb5
              have z5 := cell_lt c0
              have z3 : w2.heap.size + 2 ≤ w3.heap.size := by omega
              have hM5 : MemoG 21 (bMemo B) (w5.setCell ⟨w3.heap.size, 0, none⟩ (.string tb)) w2.heap.size := (hM3.bel hb35).blk (Below.heap_setCell _ _ _ _ (by simp only; omega))
              have hX : ∀ w6, (w5.setCell ⟨w3.heap.size, 0, none⟩ (.string tb)).grownBy w6 (some w2.heap.size) →
                  (∀ j, j < w3.heap.size → j ≠ w2.heap.size → w6.heap[j]? = w3.heap[j]?) ∧ w6.cell? ⟨w3.heap.size, 0, none⟩ = some (.string tb) ∧ Below w2.heap.size W0 w6 ∧ w3.heap.size < w6.heap.size := by
                intro w6 hg
                have hne : ∀ j, j < w3.heap.size → (w5.setCell ⟨w3.heap.size, 0, none⟩ (.string tb)).heap[j]? = w3.heap[j]? := fun j hj => (Below.heap_setCell _ _ _ _ (Nat.ne_of_lt hj)).trans (hb35.block j hj)
                have hsz5 : (w5.setCell ⟨w3.heap.size, 0, none⟩ (.string tb)).heap.size = w5.heap.size := World.size_setCell _ _ _
                refine ⟨fun j hj h1 => (hg.block j (by omega) (fun e => h1 (Option.some.inj e))).trans (hne j hj), ?_, ?_, ?_⟩
                · exact hg.cell (World.cell?_setCell_same _ _ _ c0) (fun e => absurd (Option.some.inj e) (by simp only; omega))
                · exact ((hB3.trans (hb35.mono (by omega))).setCell (p := ⟨w3.heap.size, 0, none⟩) (by simp only; omega) _).grown hg (by omega) (by intro q hq; cases hq; exact Nat.le_refl _)
                · have := hg.size; omega
              have HM5 := Lib.hid hM5
              have HX := Lib.hid hX
              have HB35 := Lib.hid hb35
              clear hM5 hX hb35
              clear hb5
              go_wp2_with (at_mapUpdate; go_loud (refine wpList_storeG _ rfl 151 _ _ _ rfl 21 153 keyedR Tryz.underlying151 (bMemo B) w2.heap.size rfl HM5.out (.int .i32 p) (.agg #[.string tb]) _ rfl HKEY.out rfl HF ?_; intro w6 hM6 hg6; obtain ⟨hk6, s6, hB6, z6⟩ := HX.out w6 hg6; obtain ⟨⟨l1, l2⟩, ⟨l3, l4⟩⟩ := HZ.out w6 (fun j hj => (hk6 j (by omega) (by omega)).trans (ho3 j (by omega)))))
              refine bodyPost_ret (v := .tuple #[.string ⟨#[]⟩, .agg #[.int .i64 6, .int .i64 k]]) (by simp [results, Tryz.results44, go_sem, l1, l2, l3, l4]) rfl ?_
              refine (show EncPost _ _ _ _ from ⟨?_, ?_⟩)
              · rw [E1.out]; rfl
              · exact ((HBW0.out.trans (hB6.mono (by omega))).setCell (Nat.le_refl _) _).setCell (Nat.le_refl _) _
            · have hB3 : Below w2.heap.size W0 w3 := hbel.grown hg3 (by omega) (by intro q hq; cases hq; omega)
              have hbw3 := HBW0.out.trans (hB3.mono (by omega))
              refine bodyPost_ret (v := .tuple #[.string ⟨#[]⟩, .agg #[.int .i64 6, .int .i64 k]]) (by simp [results, Tryz.results44, go_sem, a1, a2, a3, a4, z1]) rfl ?_
              refine (show EncPost _ _ _ _ from ⟨?_, ?_⟩)
              · rw [E1.out]; rfl
              · exact ((hbw3.setCell (Nat.le_refl _) _).setCell (Nat.le_refl _) _).alloc (by simp; omega) _
          · have hse : tb.toList.isEmpty = false := by rw [ByteArray.toList_eq]; simpa using hsn
            rw [if_neg hsn] at ht
            have e1 := runT_some (tok := tokB B) f _ k acc _ _ hne2 ht
            rw [hRT.out, List.drop_drop] at e1
            have hacc2 : (acc ++ bl tb).length ≤ 1024 * (k + j) := by rw [List.length_append, bl_length]; omega
            have E1 := Lib.hid e1
            have HDC := Lib.hid hd
            have HSN := Lib.hid hsn
            have HACC := Lib.hid hacc2
            clear e1 hd hsn hacc2
            clear ht hne2 hRT c4
            go_wp2_with (first
              | (at_next; refine wpList_nextD rfl _ rfl wr (w2.heap.size + 1) b k rfl hI hlt p j HDC ?_; intro w3 hI3 ho3 hg3; have hs3 := hg3.size; have z1 : w.heap.size < w3.heap.size := (by omega); have hM3 := hMw.out.blk (ho3 w2.heap.size (by omega)); obtain ⟨⟨a1, a2⟩, ⟨a3, a4⟩⟩ := HZ.out w3 (fun j hj => ho3 j (by omega)))
              | (at_lookup; go_loud (refine wpList_lookG w3 rfl 151 _ _ rfl 21 153 keyedR Tryz.underlying151 (.agg #[.string ⟨#[]⟩]) (zeroTold w3) (bMemo B) w2.heap.size rfl hM3 (.int .i32 p) _ rfl HKEY.out (.agg #[.string tb]) HF ?_ ?_))
              | (at_builtin; go_loud (refine wpList_pushS rfl _ _ rfl (w3.alloc (.cells #[.string tb] 153)) (w2.heap.size + 2) u8 acc tb rfl ((HO3.out w3 ho3).alloc _) rfl (by omega) (by rw [World.size_alloc]; omega) ?_; intro v' w7 hown7 hb7)))
            · have hB3 : Below w2.heap.size W0 w3 := hbel.grown hg3 (by omega) (by intro q hq; cases hq; omega)
              have hbw3 := HBW0.out.trans (hB3.mono (by omega))
              have hown3 := HO3.out w3 ho3
              refine (KC.out _ ((HT.out.bel hbw3).alloc _)).mono ?_
              rintro e w5 ⟨⟨ok, rfl⟩, hb5⟩
              have hb35 := bt (bal (Below.refl w3.heap.size w3) (.cells #[.string ⟨#[]⟩] 153)) hb5
              obtain ⟨c0, c0'⟩ := (Live.fresh w3 #[.string ⟨#[]⟩] 153 0 _ rfl).keep hb5
              have z5 := cell_lt c0
              have z3 : w2.heap.size + 2 ≤ w3.heap.size := by omega
              have hM5 : MemoG 21 (bMemo B) (w5.setCell ⟨w3.heap.size, 0, none⟩ (.string tb)) w2.heap.size := (hM3.bel hb35).blk (Below.heap_setCell _ _ _ _ (by simp only; omega))
              have hX : ∀ w6, (w5.setCell ⟨w3.heap.size, 0, none⟩ (.string tb)).grownBy w6 (some w2.heap.size) →
                  (∀ j, j < w3.heap.size → j ≠ w2.heap.size → w6.heap[j]? = w3.heap[j]?) ∧ w6.cell? ⟨w3.heap.size, 0, none⟩ = some (.string tb) ∧ Below w2.heap.size W0 w6 ∧ w3.heap.size < w6.heap.size := by
                intro w6 hg
                have hne : ∀ j, j < w3.heap.size → (w5.setCell ⟨w3.heap.size, 0, none⟩ (.string tb)).heap[j]? = w3.heap[j]? := fun j hj => (Below.heap_setCell _ _ _ _ (Nat.ne_of_lt hj)).trans (hb35.block j hj)
                have hsz5 : (w5.setCell ⟨w3.heap.size, 0, none⟩ (.string tb)).heap.size = w5.heap.size := World.size_setCell _ _ _
                refine ⟨fun j hj h1 => (hg.block j (by omega) (fun e => h1 (Option.some.inj e))).trans (hne j hj), ?_, ?_, ?_⟩
                · exact hg.cell (World.cell?_setCell_same _ _ _ c0) (fun e => absurd (Option.some.inj e) (by simp only; omega))
                · exact ((hB3.trans (hb35.mono (by omega))).setCell (p := ⟨w3.heap.size, 0, none⟩) (by simp only; omega) _).grown hg (by omega) (by intro q hq; cases hq; exact Nat.le_refl _)
                · have := hg.size; omega
              have HM5 := Lib.hid hM5
              have HX := Lib.hid hX
              have HB35 := Lib.hid hb35
              clear hM5 hX hb35
              clear hb5
              go_wp2_with (first
                | (at_mapUpdate; go_loud (refine wpList_storeG _ rfl 151 _ _ _ rfl 21 153 keyedR Tryz.underlying151 (bMemo B) w2.heap.size rfl HM5.out (.int .i32 p) (.agg #[.string tb]) _ rfl HKEY.out rfl HF ?_; intro w6 hM6 hg6; obtain ⟨hk6, s6, hB6, z6⟩ := HX.out w6 hg6; obtain ⟨⟨l1, l2⟩, ⟨l3, l4⟩⟩ := HZ.out w6 (fun j hj => (hk6 j (by omega) (by omega)).trans (ho3 j (by omega)))))
                | (at_builtin; go_loud (refine wpList_pushS rfl _ _ rfl w6 (w2.heap.size + 2) u8 acc tb rfl (orow_other hown3 fun q hq => by obtain ⟨y1, y2⟩ := hown3.blk q hq; exact hk6 q y2 (by omega)) rfl (by omega) (by omega) ?_; intro v' w7 hown7 hb7)))
              have hI7 : ItS w7 (w2.heap.size + 1) b (k + j) := hI3.blk ((hb7.block _ (by omega)).trans (hk6 _ (by omega) (by omega)))
              have hM7 := hM6.blk (hb7.block w2.heap.size (by omega))
              have hkp7 : ∀ q, q < w2.heap.size → w7.heap[q]? = W0.heap[q]? := fun q hq => (hb7.block q (by omega)).trans ((hk6 q (by omega) (by omega)).trans ((ho3 q (by omega)).trans (hkp.out q hq)))
              exact ⟨⟨f, k + j, acc ++ bl tb, Lib.hid hown7, hI7, by omega, HACC.out, by omega, Lib.hid E1.out.symm, Lib.hid hM7, Lib.hid hkp7, hB6.trans (hb7.mono (by omega))⟩, by rw [HPOS.out, hI7.pos]; omega⟩
            · have hB3 : Below w2.heap.size W0 w3 := hbel.grown hg3 (by omega) (by intro q hq; cases hq; omega)
              have hA := bal (Below.refl w3.heap.size w3) (.cells #[.string tb] 153)
              have hI7 : ItS w7 (w2.heap.size + 1) b (k + j) := hI3.blk ((hb7.block _ (by omega)).trans (hA.block _ (by omega)))
              have hM7 := (hM3.bel hA).blk (hb7.block w2.heap.size (by omega))
              have hkp7 : ∀ q, q < w2.heap.size → w7.heap[q]? = W0.heap[q]? := fun q hq => (hb7.block q (by omega)).trans ((hA.block q (by omega)).trans ((ho3 q (by omega)).trans (hkp.out q hq)))
              exact ⟨⟨f, k + j, acc ++ bl tb, Lib.hid hown7, hI7, by omega, HACC.out, by omega, Lib.hid E1.out.symm, Lib.hid hM7, Lib.hid hkp7, (hB3.trans (hA.mono (by omega))).trans (hb7.mono (by omega))⟩, by rw [HPOS.out, hI7.pos]; omega⟩
        · have d4 : (c == 4) = false := by simpa using c4
          have KC := Lib.hid (fun w hT => (HKB.out w hT).2 c4)
          by_cases hsn : bl tb = []
          · have hse : tb.toList.isEmpty = true := by rw [ByteArray.toList_eq]; simpa using hsn
            rw [if_pos hsn] at ht
            have e1 := runT_none (tok := tokB B) f _ k acc hne2 ht
            rw [hRT.out] at e1
            have E1 := Lib.hid e1
            have HDC := Lib.hid hd
            have HSN := Lib.hid hsn
            clear e1 hd hsn
            clear ht hne2 hRT c4
            go_wp2_with (first
              | (at_next; refine wpList_nextD rfl _ rfl wr (w2.heap.size + 1) b k rfl hI hlt p j HDC ?_; intro w3 hI3 ho3 hg3; have hs3 := hg3.size; have z1 : w.heap.size < w3.heap.size := (by omega); have hM3 := hMw.out.blk (ho3 w2.heap.size (by omega)); obtain ⟨⟨a1, a2⟩, ⟨a3, a4⟩⟩ := HZ.out w3 (fun j hj => ho3 j (by omega)))
              | (at_lookup; go_loud (refine wpList_lookG w3 rfl 151 _ _ rfl 21 153 keyedR Tryz.underlying151 (.agg #[.string ⟨#[]⟩]) (zeroTold w3) (bMemo B) w2.heap.size rfl hM3 (.int .i32 p) _ rfl HKEY.out (.agg #[.string tb]) HF ?_ ?_)))
            · have hB3 : Below w2.heap.size W0 w3 := hbel.grown hg3 (by omega) (by intro q hq; cases hq; omega)
              have hbw3 := HBW0.out.trans (hB3.mono (by omega))
              refine (KC.out _ ((HT.out.bel hbw3).alloc _)).mono ?_
              rintro e w5 ⟨⟨ok, rfl⟩, hb5⟩
              have hb35 := bt (bal (Below.refl w3.heap.size w3) (.cells #[.string ⟨#[]⟩] 153)) hb5
              obtain ⟨c0, c0'⟩ := (Live.fresh w3 #[.string ⟨#[]⟩] 153 0 _ rfl).keep hb5
              have z5 := cell_lt c0
              have z3 : w2.heap.size + 2 ≤ w3.heap.size := by omega
              have hM5 : MemoG 21 (bMemo B) (w5.setCell ⟨w3.heap.size, 0, none⟩ (.string tb)) w2.heap.size := (hM3.bel hb35).blk (Below.heap_setCell _ _ _ _ (by simp only; omega))
              have hX : ∀ w6, (w5.setCell ⟨w3.heap.size, 0, none⟩ (.string tb)).grownBy w6 (some w2.heap.size) →
                  (∀ j, j < w3.heap.size → j ≠ w2.heap.size → w6.heap[j]? = w3.heap[j]?) ∧ w6.cell? ⟨w3.heap.size, 0, none⟩ = some (.string tb) ∧ Below w2.heap.size W0 w6 ∧ w3.heap.size < w6.heap.size := by
                intro w6 hg
                have hne : ∀ j, j < w3.heap.size → (w5.setCell ⟨w3.heap.size, 0, none⟩ (.string tb)).heap[j]? = w3.heap[j]? := fun j hj => (Below.heap_setCell _ _ _ _ (Nat.ne_of_lt hj)).trans (hb35.block j hj)
                have hsz5 : (w5.setCell ⟨w3.heap.size, 0, none⟩ (.string tb)).heap.size = w5.heap.size := World.size_setCell _ _ _
                refine ⟨fun j hj h1 => (hg.block j (by omega) (fun e => h1 (Option.some.inj e))).trans (hne j hj), ?_, ?_, ?_⟩
                · exact hg.cell (World.cell?_setCell_same _ _ _ c0) (fun e => absurd (Option.some.inj e) (by simp only; omega))
                · exact ((hB3.trans (hb35.mono (by omega))).setCell (p := ⟨w3.heap.size, 0, none⟩) (by simp only; omega) _).grown hg (by omega) (by intro q hq; cases hq; exact Nat.le_refl _)
                · have := hg.size; omega
              have HM5 := Lib.hid hM5
              have HX := Lib.hid hX
              have HB35 := Lib.hid hb35
              clear hM5 hX hb35
              clear hb5
              go_wp2_with (at_mapUpdate; go_loud (refine wpList_storeG _ rfl 151 _ _ _ rfl 21 153 keyedR Tryz.underlying151 (bMemo B) w2.heap.size rfl HM5.out (.int .i32 p) (.agg #[.string tb]) _ rfl HKEY.out rfl HF ?_; intro w6 hM6 hg6; obtain ⟨hk6, s6, hB6, z6⟩ := HX.out w6 hg6; obtain ⟨⟨l1, l2⟩, ⟨l3, l4⟩⟩ := HZ.out w6 (fun j hj => (hk6 j (by omega) (by omega)).trans (ho3 j (by omega)))))
              refine bodyPost_ret (v := .tuple #[.string ⟨#[]⟩, .agg #[.int .i64 6, .int .i64 k]]) (by simp [results, Tryz.results44, go_sem, l1, l2, l3, l4]) rfl ?_
              refine (show EncPost _ _ _ _ from ⟨?_, ?_⟩)
              · rw [E1.out]; rfl
              · exact ((HBW0.out.trans (hB6.mono (by omega))).setCell (Nat.le_refl _) _).setCell (Nat.le_refl _) _
            · have hB3 : Below w2.heap.size W0 w3 := hbel.grown hg3 (by omega) (by intro q hq; cases hq; omega)
              have hbw3 := HBW0.out.trans (hB3.mono (by omega))
              refine bodyPost_ret (v := .tuple #[.string ⟨#[]⟩, .agg #[.int .i64 6, .int .i64 k]]) (by simp [results, Tryz.results44, go_sem, a1, a2, a3, a4, z1]) rfl ?_
              refine (show EncPost _ _ _ _ from ⟨?_, ?_⟩)
              · rw [E1.out]; rfl
              · exact ((hbw3.setCell (Nat.le_refl _) _).setCell (Nat.le_refl _) _).alloc (by simp; omega) _
          · have hse : tb.toList.isEmpty = false := by rw [ByteArray.toList_eq]; simpa using hsn
            rw [if_neg hsn] at ht
            have e1 := runT_some (tok := tokB B) f _ k acc _ _ hne2 ht
            rw [hRT.out, List.drop_drop] at e1
            have hacc2 : (acc ++ bl tb).length ≤ 1024 * (k + j) := by rw [List.length_append, bl_length]; omega
            have E1 := Lib.hid e1
            have HDC := Lib.hid hd
            have HSN := Lib.hid hsn
            have HACC := Lib.hid hacc2
            clear e1 hd hsn hacc2
            clear ht hne2 hRT c4
            go_wp2_with (first
              | (at_next; refine wpList_nextD rfl _ rfl wr (w2.heap.size + 1) b k rfl hI hlt p j HDC ?_; intro w3 hI3 ho3 hg3; have hs3 := hg3.size; have z1 : w.heap.size < w3.heap.size := (by omega); have hM3 := hMw.out.blk (ho3 w2.heap.size (by omega)); obtain ⟨⟨a1, a2⟩, ⟨a3, a4⟩⟩ := HZ.out w3 (fun j hj => ho3 j (by omega)))
              | (at_lookup; go_loud (refine wpList_lookG w3 rfl 151 _ _ rfl 21 153 keyedR Tryz.underlying151 (.agg #[.string ⟨#[]⟩]) (zeroTold w3) (bMemo B) w2.heap.size rfl hM3 (.int .i32 p) _ rfl HKEY.out (.agg #[.string tb]) HF ?_ ?_))
              | (at_builtin; go_loud (refine wpList_pushS rfl _ _ rfl (w3.alloc (.cells #[.string tb] 153)) (w2.heap.size + 2) u8 acc tb rfl ((HO3.out w3 ho3).alloc _) rfl (by omega) (by rw [World.size_alloc]; omega) ?_; intro v' w7 hown7 hb7)))
            · have hB3 : Below w2.heap.size W0 w3 := hbel.grown hg3 (by omega) (by intro q hq; cases hq; omega)
              have hbw3 := HBW0.out.trans (hB3.mono (by omega))
              have hown3 := HO3.out w3 ho3
              refine (KC.out _ ((HT.out.bel hbw3).alloc _)).mono ?_
              rintro e w5 ⟨⟨ok, rfl⟩, hb5⟩
              have hb35 := bt (bal (Below.refl w3.heap.size w3) (.cells #[.string ⟨#[]⟩] 153)) hb5
              obtain ⟨c0, c0'⟩ := (Live.fresh w3 #[.string ⟨#[]⟩] 153 0 _ rfl).keep hb5
              have z5 := cell_lt c0
              have z3 : w2.heap.size + 2 ≤ w3.heap.size := by omega
              have hM5 : MemoG 21 (bMemo B) (w5.setCell ⟨w3.heap.size, 0, none⟩ (.string tb)) w2.heap.size := (hM3.bel hb35).blk (Below.heap_setCell _ _ _ _ (by simp only; omega))
              have hX : ∀ w6, (w5.setCell ⟨w3.heap.size, 0, none⟩ (.string tb)).grownBy w6 (some w2.heap.size) →
                  (∀ j, j < w3.heap.size → j ≠ w2.heap.size → w6.heap[j]? = w3.heap[j]?) ∧ w6.cell? ⟨w3.heap.size, 0, none⟩ = some (.string tb) ∧ Below w2.heap.size W0 w6 ∧ w3.heap.size < w6.heap.size := by
                intro w6 hg
                have hne : ∀ j, j < w3.heap.size → (w5.setCell ⟨w3.heap.size, 0, none⟩ (.string tb)).heap[j]? = w3.heap[j]? := fun j hj => (Below.heap_setCell _ _ _ _ (Nat.ne_of_lt hj)).trans (hb35.block j hj)
                have hsz5 : (w5.setCell ⟨w3.heap.size, 0, none⟩ (.string tb)).heap.size = w5.heap.size := World.size_setCell _ _ _
                refine ⟨fun j hj h1 => (hg.block j (by omega) (fun e => h1 (Option.some.inj e))).trans (hne j hj), ?_, ?_, ?_⟩
                · exact hg.cell (World.cell?_setCell_same _ _ _ c0) (fun e => absurd (Option.some.inj e) (by simp only; omega))
                · exact ((hB3.trans (hb35.mono (by omega))).setCell (p := ⟨w3.heap.size, 0, none⟩) (by simp only; omega) _).grown hg (by omega) (by intro q hq; cases hq; exact Nat.le_refl _)
                · have := hg.size; omega
              have HM5 := Lib.hid hM5
              have HX := Lib.hid hX
              have HB35 := Lib.hid hb35
              clear hM5 hX hb35
              clear hb5
              go_wp2_with (first
                | (at_mapUpdate; go_loud (refine wpList_storeG _ rfl 151 _ _ _ rfl 21 153 keyedR Tryz.underlying151 (bMemo B) w2.heap.size rfl HM5.out (.int .i32 p) (.agg #[.string tb]) _ rfl HKEY.out rfl HF ?_; intro w6 hM6 hg6; obtain ⟨hk6, s6, hB6, z6⟩ := HX.out w6 hg6; obtain ⟨⟨l1, l2⟩, ⟨l3, l4⟩⟩ := HZ.out w6 (fun j hj => (hk6 j (by omega) (by omega)).trans (ho3 j (by omega)))))
                | (at_builtin; go_loud (refine wpList_pushS rfl _ _ rfl w6 (w2.heap.size + 2) u8 acc tb rfl (orow_other hown3 fun q hq => by obtain ⟨y1, y2⟩ := hown3.blk q hq; exact hk6 q y2 (by omega)) rfl (by omega) (by omega) ?_; intro v' w7 hown7 hb7)))
              have hI7 : ItS w7 (w2.heap.size + 1) b (k + j) := hI3.blk ((hb7.block _ (by omega)).trans (hk6 _ (by omega) (by omega)))
              have hM7 := hM6.blk (hb7.block w2.heap.size (by omega))
              have hkp7 : ∀ q, q < w2.heap.size → w7.heap[q]? = W0.heap[q]? := fun q hq => (hb7.block q (by omega)).trans ((hk6 q (by omega) (by omega)).trans ((ho3 q (by omega)).trans (hkp.out q hq)))
              exact ⟨⟨f, k + j, acc ++ bl tb, Lib.hid hown7, hI7, by omega, HACC.out, by omega, Lib.hid E1.out.symm, Lib.hid hM7, Lib.hid hkp7, hB6.trans (hb7.mono (by omega))⟩, by rw [HPOS.out, hI7.pos]; omega⟩
            · have hB3 : Below w2.heap.size W0 w3 := hbel.grown hg3 (by omega) (by intro q hq; cases hq; omega)
              have hA := bal (Below.refl w3.heap.size w3) (.cells #[.string tb] 153)
              have hI7 : ItS w7 (w2.heap.size + 1) b (k + j) := hI3.blk ((hb7.block _ (by omega)).trans (hA.block _ (by omega)))
              have hM7 := (hM3.bel hA).blk (hb7.block w2.heap.size (by omega))
              have hkp7 : ∀ q, q < w2.heap.size → w7.heap[q]? = W0.heap[q]? := fun q hq => (hb7.block q (by omega)).trans ((hA.block q (by omega)).trans ((ho3 q (by omega)).trans (hkp.out q hq)))
              exact ⟨⟨f, k + j, acc ++ bl tb, Lib.hid hown7, hI7, by omega, HACC.out, by omega, Lib.hid E1.out.symm, Lib.hid hM7, Lib.hid hkp7, (hB3.trans (hA.mono (by omega))).trans (hb7.mono (by omega))⟩, by rw [HPOS.out, hI7.pos]; omega⟩
    · have hkk : k = b.size := by omega
      subst hkk
      have e1 : runT (tokB B) f ((bl b).drop b.size) b.size acc = (acc, none) := by
        rw [List.drop_of_length_le (by rw [HBL.out]; exact Nat.le_refl _)]; exact runT_nil f _ acc
      rw [hRT.out] at e1
      have E1 := Lib.hid e1
      obtain ⟨⟨a1, a2⟩, ⟨a3, a4⟩⟩ := HZ.out wr (fun _ _ => rfl)
      have hcv := conv_Own hown.out
      have hbx : Below w.heap.size w wr := HBW0.out.trans (hbel.mono (by omega))
      clear e1
      go_wp2_with (at_next; refine wpList_nextE rfl _ rfl wr (w2.heap.size + 1) b b.size rfl hI (Nat.le_refl _) ?_)
      refine bodyPost_ret (v := .tuple #[.string ⟨acc.toArray⟩, .agg #[.int .i64 0, .int .i64 0]]) (by simp [results, Tryz.results44, go_sem, a1, a2, a3, a4]) rfl ?_
      refine (show EncPost _ _ _ _ from ⟨?_, ?_⟩)
      · rw [E1.out]; rfl
      · exact (hbx.setCell (Nat.le_refl _) _).setCell (Nat.le_refl _) _
end Go.Proofs.YtmpndnebjahdjaaGreatDoor
