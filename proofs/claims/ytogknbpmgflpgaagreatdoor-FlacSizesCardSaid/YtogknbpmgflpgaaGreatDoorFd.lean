/- Walk: flac.Parse (layer 21). -/
import Derived.Deep.RegionHeld3
import Derived.Test.YtogknbpmgflpgaaGreatDoorAy
import Derived.Test.YtogknbpmgflpgaaGreatDoorFb
import Derived.Test.YtogknbpmgflpgaaGreatDoorFy
namespace Go.Proofs.YtogknbpmgflpgaaGreatDoor
open Go.RowKit
set_option linter.unusedVariables false
set_option linter.unusedSimpArgs false

theorem infoMeta : (Tryz.prog.info? 71).map (fun i => (i.zero, i.size, i.bytes)) = some (some (.agg #[.int .u8 0, .string ⟨#[]⟩]), 2, 24) := by kernel_rfl
theorem mtcells_snoc (l : List Mt) (m : Mt) : mtcells (l ++ [m]) = mtcells l ++ (#[.int .u8 m.kind, .string m.body] : Array Value).toList := by rw [mtcells_append]; rfl
/-- what stands while a file is read: the options, what is handed back, the file that is made, the rows that it owns. -/
structure FS (w : World) (r H : Nat) (kd fb bu : Int) (g : Bool) (f : Fl) (vm vb : Value) (wr : World) : Prop where
  gg : Below w.heap.size w wr
  op : wr.heap[w.heap.size]? = some (.cells #[.int .i64 kd, .int .i64 fb, .bool g, .int .i64 bu] 26 (0, 0))
  rf : wr.heap[w.heap.size + 1]? = some (.cells #[.slice none 0 0, .string ⟨#[]⟩, .int .i64 0, .slice none 0 0, .int .i64 0, .string ⟨#[]⟩] 51 (0, 0))
  rt : wr.heap[w.heap.size + 1 + 1]? = some (.cells #[.int .i64 0, .int .i64 0] 38 (0, 0))
  fb : wr.heap[H]? = some (.cells #[vm, .string f.b.vt, .int .i64 f.b.vs, vb, .int .i64 f.at_, .string ⟨#[]⟩] 51 (0, 0))
  om : wr.ownsRow (H + 1) 71 2 vm f.ms.length (mtcells f.ms)
  on : wr.ownsRow (H + 1) 83 3 vb f.b.ns.length (ntcells f.b.ns)
  hr : w.heap.size + 3 ≤ r
  hH : r < H
section
variable {w wr : World} {r H : Nat} {kd fb bu : Int} {g : Bool} {f : Fl} {vm vb : Value}
theorem FS.gr (h : FS w r H kd fb bu g f vm vb wr) {w' : World} (hg : wr.grownBy w' (some r)) : FS w r H kd fb bu g f vm vb w' := by
  obtain ⟨a, b, c, d, e, f1, f2, h1, h2⟩ := h
  refine ⟨grown_bel a hg (by omega), ?_, ?_, ?_, ?_, ?_, ?_, h1, h2⟩
  · exact (hg.block _ (Array.getElem?_eq_some_iff.1 b).1 (by simp; omega)).trans b
  · exact (hg.block _ (Array.getElem?_eq_some_iff.1 c).1 (by simp; omega)).trans c
  · exact (hg.block _ (Array.getElem?_eq_some_iff.1 d).1 (by simp; omega)).trans d
  · exact (hg.block _ (Array.getElem?_eq_some_iff.1 e).1 (by simp; omega)).trans e
  · exact orow_other f1 fun q hq => hg.block q (orow_blk f1 q hq).2 (by have := (orow_blk f1 q hq).1; simp; omega)
  · exact orow_other f2 fun q hq => hg.block q (orow_blk f2 q hq).2 (by have := (orow_blk f2 q hq).1; simp; omega)
theorem FS.bel (h : FS w r H kd fb bu g f vm vb wr) {w' : World} (hb : Below wr.heap.size wr w') : FS w r H kd fb bu g f vm vb w' := h.gr (gr_below hb)
theorem FS.sz (h : FS w r H kd fb bu g f vm vb wr) : H + 1 ≤ wr.heap.size := (Array.getElem?_eq_some_iff.1 h.fb).1
theorem FS.opt (h : FS w r H kd fb bu g f vm vb wr) : wr.cell? ⟨w.heap.size, 0, none⟩ = some (.int .i64 kd) ∧ wr.cell? ⟨w.heap.size, 1, none⟩ = some (.int .i64 fb) ∧ wr.cell? ⟨w.heap.size, 2, none⟩ = some (.bool g) ∧ wr.cell? ⟨w.heap.size, 3, none⟩ = some (.int .i64 bu) :=
  ⟨(live_of h.op 0 _ rfl).1, (live_of h.op 1 _ rfl).1, (live_of h.op 2 _ rfl).1, (live_of h.op 3 _ rfl).1⟩
theorem FS.file (h : FS w r H kd fb bu g f vm vb wr) : Live wr H 0 vm ∧ Live wr H 1 (.string f.b.vt) ∧ Live wr H 2 (.int .i64 f.b.vs) ∧ Live wr H 3 vb ∧ Live wr H 4 (.int .i64 f.at_) ∧ Live wr H 5 (.string ⟨#[]⟩) :=
  ⟨live_of h.fb 0 _ rfl, live_of h.fb 1 _ rfl, live_of h.fb 2 _ rfl, live_of h.fb 3 _ rfl, live_of h.fb 4 _ rfl, live_of h.fb 5 _ rfl⟩
theorem FS.res (h : FS w r H kd fb bu g f vm vb wr) : Live wr (w.heap.size + 1) 0 (.slice none 0 0) ∧ Live wr (w.heap.size + 1) 1 (.string ⟨#[]⟩) ∧ Live wr (w.heap.size + 1) 2 (.int .i64 0) ∧ Live wr (w.heap.size + 1) 3 (.slice none 0 0) ∧ Live wr (w.heap.size + 1) 4 (.int .i64 0) ∧ Live wr (w.heap.size + 1) 5 (.string ⟨#[]⟩) ∧ Live wr (w.heap.size + 1 + 1) 0 (.int .i64 0) ∧ Live wr (w.heap.size + 1 + 1) 1 (.int .i64 0) :=
  ⟨live_of h.rf 0 _ rfl, live_of h.rf 1 _ rfl, live_of h.rf 2 _ rfl, live_of h.rf 3 _ rfl, live_of h.rf 4 _ rfl, live_of h.rf 5 _ rfl, live_of h.rt 0 _ rfl, live_of h.rt 1 _ rfl⟩
theorem FS.resL (h : FS w r H kd fb bu g f vm vb wr) : wr.cell? ⟨w.heap.size + 1, 0, none⟩ = some (.slice none 0 0) ∧ wr.frozen? ⟨w.heap.size + 1, 0, none⟩ = false ∧ wr.cell? ⟨w.heap.size + 1, 1, none⟩ = some (.string ⟨#[]⟩) ∧ wr.frozen? ⟨w.heap.size + 1, 1, none⟩ = false ∧ wr.cell? ⟨w.heap.size + 1, 2, none⟩ = some (.int .i64 0) ∧ wr.frozen? ⟨w.heap.size + 1, 2, none⟩ = false ∧ wr.cell? ⟨w.heap.size + 1, 3, none⟩ = some (.slice none 0 0) ∧ wr.frozen? ⟨w.heap.size + 1, 3, none⟩ = false ∧ wr.cell? ⟨w.heap.size + 1, 4, none⟩ = some (.int .i64 0) ∧ wr.frozen? ⟨w.heap.size + 1, 4, none⟩ = false ∧ wr.cell? ⟨w.heap.size + 1, 5, none⟩ = some (.string ⟨#[]⟩) ∧ wr.frozen? ⟨w.heap.size + 1, 5, none⟩ = false ∧ wr.cell? ⟨w.heap.size + 1 + 1, 0, none⟩ = some (.int .i64 0) ∧ wr.frozen? ⟨w.heap.size + 1 + 1, 0, none⟩ = false ∧ wr.cell? ⟨w.heap.size + 1 + 1, 1, none⟩ = some (.int .i64 0) ∧ wr.frozen? ⟨w.heap.size + 1 + 1, 1, none⟩ = false :=
  ⟨h.res.1.1, h.res.1.2, h.res.2.1.1, h.res.2.1.2, h.res.2.2.1.1, h.res.2.2.1.2, h.res.2.2.2.1.1, h.res.2.2.2.1.2, h.res.2.2.2.2.1.1, h.res.2.2.2.2.1.2, h.res.2.2.2.2.2.1.1, h.res.2.2.2.2.2.1.2, h.res.2.2.2.2.2.2.1.1, h.res.2.2.2.2.2.2.1.2, h.res.2.2.2.2.2.2.2.1, h.res.2.2.2.2.2.2.2.2⟩
theorem FS.fileL (h : FS w r H kd fb bu g f vm vb wr) : wr.cell? ⟨H, 0, none⟩ = some (vm) ∧ wr.frozen? ⟨H, 0, none⟩ = false ∧ wr.cell? ⟨H, 1, none⟩ = some (.string f.b.vt) ∧ wr.frozen? ⟨H, 1, none⟩ = false ∧ wr.cell? ⟨H, 2, none⟩ = some (.int .i64 f.b.vs) ∧ wr.frozen? ⟨H, 2, none⟩ = false ∧ wr.cell? ⟨H, 3, none⟩ = some (vb) ∧ wr.frozen? ⟨H, 3, none⟩ = false ∧ wr.cell? ⟨H, 4, none⟩ = some (.int .i64 f.at_) ∧ wr.frozen? ⟨H, 4, none⟩ = false ∧ wr.cell? ⟨H, 5, none⟩ = some (.string ⟨#[]⟩) ∧ wr.frozen? ⟨H, 5, none⟩ = false :=
  ⟨h.file.1.1, h.file.1.2, h.file.2.1.1, h.file.2.1.2, h.file.2.2.1.1, h.file.2.2.1.2, h.file.2.2.2.1.1, h.file.2.2.2.1.2, h.file.2.2.2.2.1.1, h.file.2.2.2.2.1.2, h.file.2.2.2.2.2.1, h.file.2.2.2.2.2.2⟩
/-- the notes and their number are stored. -/
theorem FS.note (h : FS w r H kd fb bu g f vm vb wr) (b : Bk) (vb' : Value) (a : Int) (ho : wr.ownsRow (H + 1) 83 3 vb' b.ns.length (ntcells b.ns)) :
    FS w r H kd fb bu g ⟨f.ms, b, a, f.sound⟩ vm vb' ((((wr.setCell ⟨H, 1, none⟩ (.string b.vt)).setCell ⟨H, 2, none⟩ (.int .i64 b.vs)).setCell ⟨H, 3, none⟩ vb').setCell ⟨H, 4, none⟩ (.int .i64 a)) := by
  obtain ⟨h0, h1, h2, h3, h4, h5, h6, h7, h8⟩ := h
  have s1 := Go.Lib.heap_setCell_same (i := 1) h4 (.string b.vt)
  have s2 := Go.Lib.heap_setCell_same (i := 2) s1 (.int .i64 b.vs)
  have s3 := Go.Lib.heap_setCell_same (i := 3) s2 vb'
  have s4 := Go.Lib.heap_setCell_same (i := 4) s3 (.int .i64 a)
  have hb : ∀ j, j ≠ H → ((((wr.setCell ⟨H, 1, none⟩ (.string b.vt)).setCell ⟨H, 2, none⟩ (.int .i64 b.vs)).setCell ⟨H, 3, none⟩ vb').setCell ⟨H, 4, none⟩ (.int .i64 a)).heap[j]? = wr.heap[j]? := by
    intro j hj
    rw [Below.heap_setCell _ _ _ j (by simpa using hj), Below.heap_setCell _ _ _ j (by simpa using hj), Below.heap_setCell _ _ _ j (by simpa using hj), Below.heap_setCell _ _ _ j (by simpa using hj)]
  refine ⟨(((h0.setCell (by simp; omega) _).setCell (by simp; omega) _).setCell (by simp; omega) _).setCell (by simp; omega) _, ?_, ?_, ?_, ?_, ?_, ?_, h7, h8⟩
  · rw [hb _ (by omega)]; exact h1
  · rw [hb _ (by omega)]; exact h2
  · rw [hb _ (by omega)]; exact h3
  · rw [s4]; simp
  · exact orow_other h5 fun q hq => hb q (by have := (orow_blk h5 q hq).1; omega)
  · exact orow_other ho fun q hq => hb q (by have := (orow_blk ho q hq).1; omega)
/-- one more block is appended and stored. -/
theorem FS.push (h : FS w r H kd fb bu g f vm vb wr) {w' : World} (m : Mt) (vm' : Value) (ho : w'.ownsRow (H + 1) 71 2 vm' (f.ms.length + 1) (mtcells f.ms ++ (#[.int .u8 m.kind, .string m.body] : Array Value).toList)) (hb : Below (H + 1) wr w')
    (hk : ∀ k, k < wr.heap.size → some k ≠ vm.ownBlock → w'.heap[k]? = wr.heap[k]?) :
    FS w r H kd fb bu g ⟨f.ms ++ [m], f.b, f.at_, f.sound⟩ vm' vb (w'.setCell ⟨H, 0, none⟩ vm') := by
  obtain ⟨h0, h1, h2, h3, h4, h5, h6, h7, h8⟩ := h
  have h4' := (hb.block H (by omega)).trans h4
  have s1 := Go.Lib.heap_setCell_same (i := 0) h4' vm'
  have hj : ∀ j, j ≠ H → (w'.setCell ⟨H, 0, none⟩ vm').heap[j]? = w'.heap[j]? := fun j hj => Below.heap_setCell _ _ _ j (by simpa using hj)
  refine ⟨(h0.trans (hb.mono (by omega))).setCell (by simp; omega) _, ?_, ?_, ?_, ?_, ?_, ?_, h7, h8⟩
  · rw [hj _ (by omega)]; exact (hb.block _ (by omega)).trans h1
  · rw [hj _ (by omega)]; exact (hb.block _ (by omega)).trans h2
  · rw [hj _ (by omega)]; exact (hb.block _ (by omega)).trans h3
  · rw [s1]; simp
  · simp only
    rw [mtcells_snoc, List.length_append]
    exact orow_other ho fun q hq => hj q (by have := (orow_blk ho q hq).1; omega)
  · refine orow_other h6 fun q hq => ?_
    have hq2 := orow_blk h6 q hq
    rw [hj q (by omega)]
    exact hk q hq2.2 (fun e => orow_ne h6 h5 (by decide) q hq e.symm)
/-- a cell of another block is stored. -/
theorem FS.other (h : FS w r H kd fb bu g f vm vb wr) (M o : Nat) (v : Value) (hM : H < M) (hm : some M ≠ vm.ownBlock) (hn : some M ≠ vb.ownBlock) : FS w r H kd fb bu g f vm vb (wr.setCell ⟨M, o, none⟩ v) := by
  obtain ⟨h0, h1, h2, h3, h4, h5, h6, h7, h8⟩ := h
  have hj : ∀ j, j ≠ M → (wr.setCell ⟨M, o, none⟩ v).heap[j]? = wr.heap[j]? := fun j hj => Below.heap_setCell _ _ _ j (by simpa using hj)
  refine ⟨h0.setCell (by simp; omega) _, ?_, ?_, ?_, ?_, ?_, ?_, h7, h8⟩
  · rw [hj _ (by omega)]; exact h1
  · rw [hj _ (by omega)]; exact h2
  · rw [hj _ (by omega)]; exact h3
  · rw [hj _ (by omega)]; exact h4
  · exact orow_other h5 fun q hq => hj q (fun e => hm (by rw [hq, e]))
  · exact orow_other h6 fun q hq => hj q (fun e => hn (by rw [hq, e]))
end
/-- what Parse answers. -/
def FParsePost (p : Fl × Int × Int) (w : World) (e : Ending) (w' : World) : Prop := Below w.heap.size w w' ∧ ∃ vm vb, e = .returned (.tuple #[flV vm vb p.1, .agg #[.int .i64 p.2.1, .int .i64 p.2.2]]) ∧
  w'.ownsRow w.heap.size 71 2 vm p.1.ms.length (mtcells p.1.ms) ∧ w'.ownsRow w.heap.size 83 3 vb p.1.b.ns.length (ntcells p.1.b.ns)
def noFV : Value := .agg #[.slice none 0 0, .string ⟨#[]⟩, .int .i64 0, .slice none 0 0, .int .i64 0, .string ⟨#[]⟩]
theorem fpost_none {w w5 : World} {r H : Nat} {kd fb bu : Int} {g : Bool} {f : Fl} {vm vb : Value} (hP : FS w r H kd fb bu g f vm vb w5) (e a : Int) :
    FParsePost (noFl, e, a) w (.returned (.tuple #[noFV, .agg #[.int .i64 e, .int .i64 a]])) ((((((((w5.setCell ⟨w.heap.size + 1, 0, none⟩ (.slice none 0 0)).setCell ⟨w.heap.size + 1, 1, none⟩ (.string ⟨#[]⟩)).setCell ⟨w.heap.size + 1, 2, none⟩ (.int .i64 0)).setCell ⟨w.heap.size + 1, 3, none⟩ (.slice none 0 0)).setCell ⟨w.heap.size + 1, 4, none⟩ (.int .i64 0)).setCell ⟨w.heap.size + 1, 5, none⟩ (.string ⟨#[]⟩)).setCell ⟨w.heap.size + 1 + 1, 0, none⟩ (.int .i64 e)).setCell ⟨w.heap.size + 1 + 1, 1, none⟩ (.int .i64 a)) :=
  ⟨(((((((hP.gg.setCell (by simp <;> omega) _).setCell (by simp <;> omega) _).setCell (by simp <;> omega) _).setCell (by simp <;> omega) _).setCell (by simp <;> omega) _).setCell (by simp <;> omega) _).setCell (by simp <;> omega) _).setCell (by simp <;> omega) _, .slice none 0 0, .slice none 0 0, rfl, World.ownsRow_nil _ _ _ _, World.ownsRow_nil _ _ _ _⟩

theorem failR_b (x : RS) (e a : Int) : (failR x e a).b = x.b := by unfold failR; split <;> rfl
theorem takeR_b (x : RS) (k : Int) : (takeR x k).1.b = x.b := by
  unfold takeR
  split
  · rfl
  · split
    · exact failR_b _ _ _
    · rfl
theorem wantR_b (x : RS) (t : ByteArray) : (wantR x t).1.b = x.b := by
  unfold wantR
  split
  · rfl
  · split
    · exact failR_b _ _ _
    · split
      · exact failR_b _ _ _
      · rfl
theorem wantR_s (x : RS) (t : ByteArray) : (wantR x t).1.s = x.s := by
  unfold wantR
  split
  · rfl
  · split
    · exact failR_s _ _ _
    · split
      · exact failR_s _ _ _
      · rfl
theorem bigR_lt (x : RS) (k : Nat) (h : k ≤ 3) : (bigR x k).2 < 16777216 := by
  unfold bigR
  refine Nat.lt_of_lt_of_le (beN_lt _) ?_
  have : (bl (takeR x k).2).length ≤ 3 := by rw [bl_length]; exact Nat.le_trans (takeR_size x k) h
  exact Nat.le_trans (Nat.pow_le_pow_right (by decide) this) (by decide)
theorem bigR_1 (x : RS) : (bigR x 1).2 < 256 := by
  unfold bigR
  refine Nat.lt_of_lt_of_le (beN_lt _) ?_
  have : (bl (takeR x (1 : Nat)).2).length ≤ 1 := by rw [bl_length]; exact takeR_size x 1
  exact Nat.le_trans (Nat.pow_le_pow_right (by decide) this) (by decide)
/-- what is left of the reading: the last block is read, or not yet. -/
def restF (R : List UInt8 → Int) (s : ByteArray) (RES : Fl × Int × Int) (k : Nat) (lb : Bool) (y : RS) (f : Fl) : Prop :=
  if lb = true then RES = (⟨f.ms, f.b, f.at_, (takeR y (leftR y)).2⟩, 0, 0) else RES = fparL R k y f ∧ s.size + 1 ≤ k + y.n
def measF (s : ByteArray) (r : Nat) (lv : Value) (wr : World) : Nat := match lv with
  | .bool true => 0
  | _ => match wr.cell? ⟨r, 1, none⟩ with
    | some (.int _ n) => s.size + 1 - n.toNat
    | _ => 0
theorem measF_false (s : ByteArray) (r : Nat) (wr : World) (n : Nat) (h : wr.cell? ⟨r, 1, none⟩ = some (.int .i64 n)) : measF s r (.bool false) wr = s.size + 1 - n := by
  unfold measF; rw [h]; simp
theorem measF_true (s : ByteArray) (r : Nat) (wr : World) : measF s r (.bool true) wr = 0 := rfl
theorem restF_step {R : List UInt8 → Int} {s : ByteArray} {RES : Fl × Int × Int} {k h n m : Nat} {y3 : RS} {f : Fl}
    (hA : RES = if 128 ≤ h then (⟨f.ms, f.b, f.at_, (takeR y3 (leftR y3)).2⟩, 0, 0) else fparL R k y3 f) (hn : y3.n = n + (4 + m)) (hk : s.size + 1 ≤ k + 1 + n) : restF R s RES k (decide ((h : Int) ≥ 128)) y3 f := by
  unfold restF
  by_cases hh : 128 ≤ h
  · rw [if_pos (by simp; omega)]
    rw [if_pos hh] at hA
    exact hA
  · rw [if_neg (by simp; omega)]
    rw [if_neg hh] at hA
    exact ⟨hA, by omega⟩
theorem measF_step {s : ByteArray} {r h n n3 m : Nat} {wr wE : World} (h0 : measF s r (.bool false) wr = s.size + 1 - n) (hE : measF s r (.bool false) wE = s.size + 1 - n3) (hn : n ≤ s.size) (h3 : n3 = n + (4 + m)) :
    measF s r (.bool (decide ((h : Int) ≥ 128))) wE < measF s r (.bool false) wr := by
  cases decide ((h : Int) ≥ 128) with
  | true => rw [measF_true, h0]; omega
  | false => rw [hE, h0]; omega
set_option maxRecDepth 100000 in
set_option maxHeartbeats 40000000 in
theorem fparse_any (s : ByteArray) (kd fb bu : Int) (g : Bool) (w : World) (hT : TW w) (hs : s.size ≤ 1048576) :
    Calls Tryz.prog 16 #[.string s, .agg #[.int .i64 kd, .int .i64 fb, .bool g, .int .i64 bu]] w (FParsePost (fparM (RM fb g) s) w) := by
  obtain ⟨RES, hRES⟩ : ∃ RES, RES = fparM (RM fb g) s := ⟨_, rfl⟩
  rw [← hRES]
  unfold fparM at hRES
  have kr := fun w => readX_any s w
  have hk0 : okR ⟨s, 0, 0, 0, 0⟩ := ⟨Nat.zero_le _, by show s.size ≤ _; omega, Nat.zero_le _⟩
  have kw := fun w r h => inx_want w r ⟨s, 0, 0, 0, 0⟩ letters h hk0 (by decide)
  have hky := okR_want hk0 letters
  have hys := wantR_s ⟨s, 0, 0, 0, 0⟩ letters
  have hyb := wantR_b ⟨s, 0, 0, 0, 0⟩ letters
  simp only at hys hyb
  generalize wantR ⟨s, 0, 0, 0, 0⟩ letters = WV at *
  obtain ⟨y0, wb⟩ := WV
  simp only at kw hky hys hyb hRES
  unfold letters at kw
  obtain ⟨W, hW⟩ : ∃ W, W = ((w.alloc (.cells #[.int .i64 kd, .int .i64 fb, .bool g, .int .i64 bu] 26)).alloc (.cells #[.slice none 0 0, .string ⟨#[]⟩, .int .i64 0, .slice none 0 0, .int .i64 0, .string ⟨#[]⟩] 51)).alloc (.cells #[.int .i64 0, .int .i64 0] 38) := ⟨_, rfl⟩
  have hWs : W.heap.size = w.heap.size + 3 := by rw [hW, World.size_alloc, World.size_alloc, World.size_alloc]
  have hbW : Below w.heap.size w W := by rw [hW]; exact bal (bal (bal (Below.refl _ _) _) _) _
  have hs1 : (w.alloc (.cells #[.int .i64 kd, .int .i64 fb, .bool g, .int .i64 bu] 26)).heap.size = w.heap.size + 1 := World.size_alloc _ _
  have hs2 : ((w.alloc (.cells #[.int .i64 kd, .int .i64 fb, .bool g, .int .i64 bu] 26)).alloc (.cells #[.slice none 0 0, .string ⟨#[]⟩, .int .i64 0, .slice none 0 0, .int .i64 0, .string ⟨#[]⟩] 51)).heap.size = w.heap.size + 2 := by rw [World.size_alloc, hs1]
  have W0 : W.heap[w.heap.size]? = some (.cells #[.int .i64 kd, .int .i64 fb, .bool g, .int .i64 bu] 26 (0, 0)) := by
    rw [hW]; exact (heap_alloc_old _ _ (by rw [hs2]; omega)).trans ((heap_alloc_old _ _ (by rw [hs1]; omega)).trans (heap_alloc_new _ _))
  have W1 : W.heap[w.heap.size + 1]? = some (.cells #[.slice none 0 0, .string ⟨#[]⟩, .int .i64 0, .slice none 0 0, .int .i64 0, .string ⟨#[]⟩] 51 (0, 0)) := by
    rw [hW, ← hs1]; exact (heap_alloc_old _ _ (by rw [hs2, hs1]; omega)).trans (heap_alloc_new _ _)
  have W2 : W.heap[w.heap.size + 1 + 1]? = some (.cells #[.int .i64 0, .int .i64 0] 38 (0, 0)) := by
    rw [hW, show w.heap.size + 1 + 1 = w.heap.size + 2 from rfl, ← hs2]; exact heap_alloc_new _ _
  clear hs1 hs2
  have KR := Lib.hid kr
  have KW := Lib.hid kw
  have HRES := Lib.hid hRES
  have HWS := Lib.hid hWs
  have HBW := Lib.hid hbW
  have HW0 := Lib.hid W0
  have HW1 := Lib.hid W1
  have HW2 := Lib.hid W2
  have HT := Lib.hid hT
  clear kr kw hRES hWs hbW W0 W1 W2 hT
  go_enter Tryz.func16, Tryz.ntmps16
  go_wp2_with fail
  rw [← hW]
  clear hW
  go_wp2_with (first
    | (go_at_call 10; refine (KR.out _).mono ?_; rintro e w1 ⟨r, rfl, hr, hi1, hb1⟩)
    | (go_at_call 34; refine (KW.out _ _ hi1).mono ?_; rintro e w2 ⟨rfl, hi2, hg2⟩))
  have hb2 : Below W.heap.size W w2 := grown_bel hb1 hg2 hr
  have hrl : r < w2.heap.size := hi2.lt
  have hb3 := bal hb2 (.cells #[.slice none 0 0, .string ⟨#[]⟩, .int .i64 0, .slice none 0 0, .int .i64 (-1), .string ⟨#[]⟩] 51)
  have P0 : FS w r w2.heap.size kd fb bu g fl0 (.slice none 0 0) (.slice none 0 0) (w2.alloc (.cells #[.slice none 0 0, .string ⟨#[]⟩, .int .i64 0, .slice none 0 0, .int .i64 (-1), .string ⟨#[]⟩] 51)) :=
    ⟨HBW.out.trans (hb3.mono HBW.out.size), (hb3.block _ (by rw [HWS.out]; omega)).trans HW0.out, (hb3.block _ (by rw [HWS.out]; omega)).trans HW1.out, (hb3.block _ (by rw [HWS.out]; omega)).trans HW2.out, heap_alloc_new _ _, World.ownsRow_nil _ _ _ _, World.ownsRow_nil _ _ _ _, by rw [← HWS.out]; exact hr, hrl⟩
  have i0 := hi2.bel (bal (Below.refl w2.heap.size w2) (.cells #[.slice none 0 0, .string ⟨#[]⟩, .int .i64 0, .slice none 0 0, .int .i64 (-1), .string ⟨#[]⟩] 51))
  have hr4 : 4 ≤ r := Nat.le_trans HT.out.sz (Nat.le_trans HBW.out.size hr)
  have HB2 := Lib.hid hb2
  have HB3 := Lib.hid hb3
  clear hb2 hb3
  go_loopw [8] (fun lv wr => ∃ (lb : Bool) (k : Nat) (y : RS) (f : Fl) (vm vb : Value), lv = .bool lb ∧ FS w r w2.heap.size kd fb bu g f vm vb wr ∧ InX wr r y ∧ okR y ∧ y.s = s ∧ y.b = 0 ∧ Hid (restF (RM fb g) s RES k lb y f)) (fun lv wr => measF s r lv wr)
  case atStart => exact ⟨false, s.size + 1, y0, fl0, _, _, rfl, P0, i0, hky, hys, hyb, Lib.hid (by unfold restF; rw [if_neg (by decide)]; exact ⟨HRES.out, Nat.le_add_right _ _⟩)⟩
  case round =>
    clear P0 i0 hky hys hyb hi2 hi1 hg2 HRES
    obtain ⟨lb, k, y, f, vm, vb, rfl, P, hi, hky, hys, hyb, hA⟩ := hrel
    obtain ⟨am, cm, rfl⟩ := orow_form P.om
    obtain ⟨an, cn, rfl⟩ := orow_form P.on
    have HYB := Lib.hid hyb
    have HYS := Lib.hid hys
    cases lb with
    | true =>
      have hres := hA.out
      unfold restF at hres
      rw [if_pos rfl] at hres
      have kx := fun w h => inx_rest w r y h hky
      generalize takeR y (leftR y) = Z at *
      obtain ⟨z, T⟩ := Z
      simp only at hres kx
      have HRES := Lib.hid hres
      have KX := Lib.hid kx
      clear hres kx
      have hne1 : ¬ w2.heap.size = w.heap.size + 1 := by have := P.hr; have := P.hH; omega
      have hne2 : ¬ w.heap.size + 1 = w2.heap.size := by omega
      have hne3 : ¬ w2.heap.size = w.heap.size + 1 + 1 := by have := P.hr; have := P.hH; omega
      have hne4 : ¬ w.heap.size + 1 + 1 = w2.heap.size := by omega
      clear hA hyb hys hky
      go_wp2_with (go_at_call 44; with_reducible refine (KX.out _ hi).mono ?_; rintro e w3 ⟨rfl, hi3, hg3⟩; have P3 := P.gr hg3; obtain ⟨h0, h0', h1, h1', h2, h2', h3, h3', h4, h4', h5, h5'⟩ := P3.fileL; obtain ⟨q0, q0', q1, q1', q2, q2', q3, q3', q4, q4', q5, q5', q6, q6', q7, q7'⟩ := P3.resL)
      refine bodyPost_ret (v := .tuple #[.agg #[.slice am f.ms.length cm, .string f.b.vt, .int .i64 f.b.vs, .slice an f.b.ns.length cn, .int .i64 f.at_, .string T], .agg #[.int .i64 0, .int .i64 0]]) (by simp [results, Tryz.results16, go_sem, q0, q1, q2, q3, q4, q5, q6, q7, q0', q1', q2', q3', q4', q5', q6', q7']) rfl ?_
      rw [HRES.out]
      have e1 := P3.hr
      have e2 := P3.hH
      have hkeep : ∀ q, w2.heap.size + 1 ≤ q → (((((((((w3.setCell ⟨w2.heap.size, 5, none⟩ (.string T)).setCell ⟨w.heap.size + 1, 0, none⟩ (.slice am f.ms.length cm)).setCell ⟨w.heap.size + 1, 1, none⟩ (.string f.b.vt)).setCell ⟨w.heap.size + 1, 2, none⟩ (.int .i64 f.b.vs)).setCell ⟨w.heap.size + 1, 3, none⟩ (.slice an f.b.ns.length cn)).setCell ⟨w.heap.size + 1, 4, none⟩ (.int .i64 f.at_)).setCell ⟨w.heap.size + 1, 5, none⟩ (.string T)).setCell ⟨w.heap.size + 1 + 1, 0, none⟩ (.int .i64 0)).setCell ⟨w.heap.size + 1 + 1, 1, none⟩ (.int .i64 0)).heap[q]? = w3.heap[q]? := by
        intro q hq
        iterate 9 rw [Below.heap_setCell _ _ _ q (by simp; omega)]
      refine ⟨((((((((P3.gg.setCell (by simp; omega) _).setCell (by simp) _).setCell (by simp) _).setCell (by simp) _).setCell (by simp) _).setCell (by simp) _).setCell (by simp) _).setCell (by simp <;> omega) _).setCell (by simp <;> omega) _, _, _, rfl, ?_, ?_⟩
      · exact orow_mono (orow_other P3.om fun q hq => hkeep q (orow_blk P3.om q hq).1) (by omega)
      · exact orow_mono (orow_other P3.on fun q hq => hkeep q (orow_blk P3.on q hq).1) (by omega)
    | false =>
      have hA2 := hA.out
      unfold restF at hA2
      rw [if_neg (by decide)] at hA2
      obtain ⟨hA2, hkn⟩ := hA2
      have hyn : y.n ≤ s.size := by rw [← hys]; exact hky.1
      obtain ⟨k', rfl⟩ : ∃ k', k = k' + 1 := ⟨k - 1, by omega⟩
      rw [fparL] at hA2
      have kat := fun w h => inx_at w r y h hky
      have kb1 : ∀ w, InX w r y → Calls Tryz.prog 41 #[.pointer (some ⟨r, 0, none⟩), .int .i64 1] w fun v w' => v = .returned (.int .u64 ((bigR y 1).2 : Int)) ∧ InX w' r (bigR y 1).1 ∧ w.grownBy w' (some r) := fun w h => inx_big w r y 1 h hky (by omega)
      have hk1 : okR (bigR y 1).1 := okR_take hky _
      have hh := bigR_1 y
      have kb3 : ∀ w, InX w r (bigR y 1).1 → Calls Tryz.prog 41 #[.pointer (some ⟨r, 0, none⟩), .int .i64 3] w fun v w' => v = .returned (.int .u64 ((bigR (bigR y 1).1 3).2 : Int)) ∧ InX w' r (bigR (bigR y 1).1 3).1 ∧ w.grownBy w' (some r) := fun w h => inx_big w r _ 3 h hk1 (by omega)
      have hk2 : okR (bigR (bigR y 1).1 3).1 := okR_take hk1 _
      have hz := bigR_lt (bigR y 1).1 3 (by omega)
      have kt := fun w h => inx_take w r (bigR (bigR y 1).1 3).1 ((bigR (bigR y 1).1 3).2 : Int) h hk2 (by omega) (by omega)
      have hk3 : okR (takeR (bigR (bigR y 1).1 3).1 ((bigR (bigR y 1).1 3).2 : Int)).1 := okR_take hk2 _
      have hH : headR y = ((takeR (bigR (bigR y 1).1 3).1 ((bigR (bigR y 1).1 3).2 : Int)).1, (bigR y 1).2, (takeR (bigR (bigR y 1).1 3).1 ((bigR (bigR y 1).1 3).2 : Int)).2) := rfl
      have hmv := fun h => (head_ok (x := y) h (by rw [hys]; exact hyn))
      have hs3 : (takeR (bigR (bigR y 1).1 3).1 ((bigR (bigR y 1).1 3).2 : Int)).1.s = s := by
        rw [takeR_s]; unfold bigR; rw [takeR_s]; show (takeR y _).1.s = s; rw [takeR_s]; exact hys
      have hb3 : (takeR (bigR (bigR y 1).1 3).1 ((bigR (bigR y 1).1 3).2 : Int)).1.b = 0 := by
        rw [takeR_b]; unfold bigR; rw [takeR_b]; show (takeR y _).1.b = 0; rw [takeR_b]; exact hyb
      rw [hH] at hA2 hmv
      generalize takeR (bigR (bigR y 1).1 3).1 ((bigR (bigR y 1).1 3).2 : Int) = T3 at *
      generalize bigR (bigR y 1).1 3 = B3 at *
      generalize bigR y 1 = B1 at *
      obtain ⟨y3, t⟩ := T3
      obtain ⟨y2, sz⟩ := B3
      obtain ⟨y1, h⟩ := B1
      simp only at hA2 hmv kat kb1 kb3 kt hk1 hk2 hk3 hh hz hs3 hb3
      have kf := fun w h => inx_fault w r y3 h
      have kbad := fun w => bad_any y3.e y3.a w
      have hwz : IntKind.i64.wrap (sz : Int) = sz := wi64 _ (by omega) (by omega)
      have hci := (InC.cells hi).2.1.1
      have hm0 := measF_false s r wr y.n hci
      clear hci hH hA
      by_cases he : y3.e = 0
      · obtain ⟨_, mv2, mv3, _⟩ := hmv he
        have hyn3 : y3.n = y.n + (4 + t.size) := by rw [mv2]; rfl
        have hts : t.size ≤ 1048576 := by rw [hys] at mv3; omega
        clear hmv mv2
        have d5 : (!decide (y3.e = 0)) = false := by simpa using he
        rw [d5] at kbad
        have hmm : ((h % 128 : Nat) : Int) = (h : Int) % 128 := by omega
        have ks := fun w => stands_any f.ms.length ⟨h % 128, t⟩ (decide (f.at_ ≥ 0)) w
        simp only [hmm] at ks
        have hwu : IntKind.u8.wrap ((h : Int) % 128) = (h : Int) % 128 := by rw [IntKind.wrap_u8]; omega
        have he' : ¬ y3.e ≠ 0 := by simpa using he
        cases hst : standM f.ms.length ⟨h % 128, t⟩ (decide (0 ≤ f.at_)) with
        | false =>
          have hst2 : standM f.ms.length ⟨h % 128, t⟩ (decide (f.at_ ≥ 0)) = false := hst
          rw [hst2] at ks
          have hadd : addF (RM fb g) f y y3 h t = (noFl, 1, (y.b : Int) + y.n) := by unfold addF; rw [if_neg he', hst, if_pos rfl]
          rw [hadd] at hA2
          simp only at hA2
          rw [if_pos (by decide)] at hA2
          clear hadd he'
          have KAT := Lib.hid kat
          have KB1 := Lib.hid kb1
          have KB3 := Lib.hid kb3
          have KT := Lib.hid kt
          have KF := Lib.hid kf
          have KBAD := Lib.hid kbad
          have KS := Lib.hid ks
          have HA2 := Lib.hid hA2
          clear kat kb1 kb3 kt kf kbad ks hA2
          clear hst hst2 d5 he hkn hm0 hmm hyn3 hs3 hb3 hyn hts hyb hys hky hk1 hk2 hk3 hh hz
          go_wp2_with (first
            | (go_at_call 30; with_reducible refine (KAT.out _ hi).mono ?_; rintro e w3 ⟨rfl, hb3⟩; have P3 := P.bel hb3; have i3 := hi.bel hb3)
            | (go_at_call 41; with_reducible refine (KB1.out _ i3).mono ?_; rintro e w4 ⟨rfl, i4, hg4⟩; have P4 := P3.gr hg4)
            | (go_at_call 41; with_reducible refine (KB3.out _ i4).mono ?_; rintro e w5 ⟨rfl, i5, hg5⟩; have P5 := P4.gr hg5)
            | (go_at_call 42; with_reducible refine (KT.out _ i5).mono ?_; rintro e w6 ⟨rfl, i6, hg6⟩; have P6 := P5.gr hg6)
            | (go_at_call 27; with_reducible refine (KF.out _ i6).mono ?_; rintro e w7 ⟨rfl, hb7⟩; have P7 := P6.bel hb7; have i7 := i6.bel hb7)
            | (go_at_call 12; refine (KBAD.out _).mono ?_; rintro e w8 ⟨rfl, hb8⟩; have P8 := P7.bel hb8; have i8 := i7.bel hb8; have c8 := P8.file.1.1; have PM := P8.bel (bal (Below.refl w8.heap.size w8) (.cells #[.int .u8 ((h : Int) % 128), .string t] 71)); have iM := i8.bel (bal (Below.refl w8.heap.size w8) (.cells #[.int .u8 ((h : Int) % 128), .string t] 71)); have cM := PM.file.2.2.2.2.1.1; have f0 := Live.fresh w8 #[.int .u8 ((h : Int) % 128), .string t] 71 0 _ rfl; have f1 := Live.fresh w8 #[.int .u8 ((h : Int) % 128), .string t] 71 1 _ rfl; obtain ⟨g0, g0'⟩ := f0; obtain ⟨g1, g1'⟩ := f1)
            | (go_at_call 43; refine (KS.out _).mono ?_; rintro e wa ⟨rfl, hba⟩; have PA := PM.bel hba; have iA := iM.bel hba; have j0 := (Live.fresh w8 #[.int .u8 ((h : Int) % 128), .string t] 71 0 _ rfl).keep hba; have j1 := (Live.fresh w8 #[.int .u8 ((h : Int) % 128), .string t] 71 1 _ rfl).keep hba; obtain ⟨j0, j0'⟩ := j0; obtain ⟨j1, j1'⟩ := j1; obtain ⟨q0, q0', q1, q1', q2, q2', q3, q3', q4, q4', q5, q5', q6, q6', q7, q7'⟩ := PA.resL))
          refine bodyPost_ret (v := .tuple #[.agg #[.slice none 0 0, .string ⟨#[]⟩, .int .i64 0, .slice none 0 0, .int .i64 0, .string ⟨#[]⟩], .agg #[.int .i64 1, .int .i64 ((y.b : Int) + y.n)]]) (by simp [results, Tryz.results16, go_sem, q0, q1, q2, q3, q4, q5, q6, q7, q0', q1', q2', q3', q4', q5', q6', q7']) rfl ?_
          rw [HA2.out]
          exact fpost_none PA _ _
        | true =>
          have hst2 : standM f.ms.length ⟨h % 128, t⟩ (decide (f.at_ ≥ 0)) = true := hst
          rw [hst2] at ks
          clear hst2
          by_cases hbig : 4096 ≤ f.ms.length
          · have hadd : addF (RM fb g) f y y3 h t = (noFl, 4, (y.b : Int) + y.n) := by unfold addF; rw [if_neg he', hst, if_neg (by decide), if_pos hbig]
            rw [hadd] at hA2
            simp only at hA2
            rw [if_pos (by decide)] at hA2
            clear hadd he' hst
            have hbg : (f.ms.length : Int) ≥ 4096 := by omega
            have KAT := Lib.hid kat
            have KB1 := Lib.hid kb1
            have KB3 := Lib.hid kb3
            have KT := Lib.hid kt
            have KF := Lib.hid kf
            have KBAD := Lib.hid kbad
            have KS := Lib.hid ks
            have HA2 := Lib.hid hA2
            clear kat kb1 kb3 kt kf kbad ks hA2
            clear d5 he hkn hm0 hmm hbig hyn3 hs3 hb3 hyn hts hyb hys hky hk1 hk2 hk3 hh hz
            go_wp2_with (first
              | (go_at_call 30; with_reducible refine (KAT.out _ hi).mono ?_; rintro e w3 ⟨rfl, hb3⟩; have P3 := P.bel hb3; have i3 := hi.bel hb3)
              | (go_at_call 41; with_reducible refine (KB1.out _ i3).mono ?_; rintro e w4 ⟨rfl, i4, hg4⟩; have P4 := P3.gr hg4)
              | (go_at_call 41; with_reducible refine (KB3.out _ i4).mono ?_; rintro e w5 ⟨rfl, i5, hg5⟩; have P5 := P4.gr hg5)
              | (go_at_call 42; with_reducible refine (KT.out _ i5).mono ?_; rintro e w6 ⟨rfl, i6, hg6⟩; have P6 := P5.gr hg6)
              | (go_at_call 27; with_reducible refine (KF.out _ i6).mono ?_; rintro e w7 ⟨rfl, hb7⟩; have P7 := P6.bel hb7; have i7 := i6.bel hb7)
              | (go_at_call 12; refine (KBAD.out _).mono ?_; rintro e w8 ⟨rfl, hb8⟩; have P8 := P7.bel hb8; have i8 := i7.bel hb8; have c8 := P8.file.1.1; have PM := P8.bel (bal (Below.refl w8.heap.size w8) (.cells #[.int .u8 ((h : Int) % 128), .string t] 71)); have iM := i8.bel (bal (Below.refl w8.heap.size w8) (.cells #[.int .u8 ((h : Int) % 128), .string t] 71)); have cM := PM.file.2.2.2.2.1.1; have f0 := Live.fresh w8 #[.int .u8 ((h : Int) % 128), .string t] 71 0 _ rfl; have f1 := Live.fresh w8 #[.int .u8 ((h : Int) % 128), .string t] 71 1 _ rfl; obtain ⟨g0, g0'⟩ := f0; obtain ⟨g1, g1'⟩ := f1)
              | (go_at_call 43; refine (KS.out _).mono ?_; rintro e wa ⟨rfl, hba⟩; have PA := PM.bel hba; have iA := iM.bel hba; have j0 := (Live.fresh w8 #[.int .u8 ((h : Int) % 128), .string t] 71 0 _ rfl).keep hba; have j1 := (Live.fresh w8 #[.int .u8 ((h : Int) % 128), .string t] 71 1 _ rfl).keep hba; obtain ⟨j0, j0'⟩ := j0; obtain ⟨j1, j1'⟩ := j1; obtain ⟨q0, q0', q1, q1', q2, q2', q3, q3', q4, q4', q5, q5', q6, q6', q7, q7'⟩ := PA.resL))
            refine bodyPost_ret (v := .tuple #[.agg #[.slice none 0 0, .string ⟨#[]⟩, .int .i64 0, .slice none 0 0, .int .i64 0, .string ⟨#[]⟩], .agg #[.int .i64 4, .int .i64 ((y.b : Int) + y.n)]]) (by simp [results, Tryz.results16, go_sem, q0, q1, q2, q3, q4, q5, q6, q7, q0', q1', q2', q3', q4', q5', q6', q7']) rfl ?_
            rw [HA2.out]
            exact fpost_none PA _ _
          · have hbg : ¬ (f.ms.length : Int) ≥ 4096 := by omega
            have hz3 : f.ms.length < 70368744177664 := by omega
            have hz5 : (f.ms.length + 1) * 24 ≤ 140737488355328 := by omega
            by_cases h4 : h % 128 = 4
            · have d4 : ((h : Int) % 128 == 4) = true := by rw [beq_iff_eq]; omega
              have hnt : t.size ≤ y3.n := by omega
              have hny : y3.n ≤ 1048576 := by have := hk3.1; rw [hs3] at this; omega
              obtain ⟨BB, hBB⟩ : ∃ BB : Nat, BB = y3.b + y3.n - t.size := ⟨_, rfl⟩
              have hws : IntKind.i64.wrap ((y3.b : Int) + y3.n - t.size) = (BB : Int) := by rw [wi64 _ (by omega) (by omega)]; omega
              have kat3 := fun w h => inx_at w r y3 h hk3
              have kin : ∀ w, Calls Tryz.prog 36 #[.string t, .int .i64 (BB : Int)] w fun x w' => ∃ r2, x = .returned (.pointer (some ⟨r2, 0, none⟩)) ∧ w.heap.size ≤ r2 ∧ InX w' r2 ⟨t, 0, BB, 0, 0⟩ ∧ Below w.heap.size w w' :=
                fun w => (inner_any t BB w).mono fun e w' ⟨r2, q1, q2, q3, q4⟩ => ⟨r2, q1, q2, by rw [show max (BB : Int) 0 = BB by omega] at q3; exact q3, q4⟩
              have hokX : okR ⟨t, 0, BB, 0, 0⟩ := ⟨Nat.zero_le _, by simp only; omega, by simp only; omega⟩
              have kpa := fun wi r2 q1 q2 q3 => cparse_any wi r2 ⟨t, 0, BB, 0, 0⟩ false kd fb bu g q1 q2 q3 hokX hts
              unfold ParsePost at kpa
              cases hp : (parseR (RM fb g) false ⟨t, 0, BB, 0, 0⟩).2 with
              | none =>
                have hpn := parse_none hp
                rw [hp] at kpa
                have hadd : addF (RM fb g) f y y3 h t = (noFl, (parseR (RM fb g) false ⟨t, 0, BB, 0, 0⟩).1.e, (parseR (RM fb g) false ⟨t, 0, BB, 0, 0⟩).1.a) := by unfold addF; rw [if_neg he', hst, if_neg (by decide), if_neg hbig, if_pos h4, ← hBB, hp]
                rw [hadd] at hA2
                simp only at hA2
                rw [if_pos hpn] at hA2
                clear hadd he' hst
                simp only [noneV] at kpa
                generalize (parseR (RM fb g) false ⟨t, 0, BB, 0, 0⟩).1 = yi at *
                have kfi := fun w r2 h => inx_fault w r2 yi h
                have KAT := Lib.hid kat
                have KB1 := Lib.hid kb1
                have KB3 := Lib.hid kb3
                have KT := Lib.hid kt
                have KF := Lib.hid kf
                have KBAD := Lib.hid kbad
                have KS := Lib.hid ks
                have HA2 := Lib.hid hA2
                have KAT3 := Lib.hid kat3
                have KIN := Lib.hid kin
                have KPA := Lib.hid kpa
                have KFI := Lib.hid kfi
                clear kat kb1 kb3 kt kf kbad ks hA2 kat3 kin kpa kfi
                clear d5 he hkn hm0 hmm hbig h4 hpn hp hokX hBB hnt hny hyn3 hs3 hb3 hyn hts hyb hys hky hk1 hk2 hk3 hh hz hz3 hz5
                go_wp2_with (first
                    | (go_at_call 27; with_reducible refine (KFI.out _ _ ie).mono ?_; rintro e we ⟨rfl, hbe⟩; have PF := PE.bel hbe; obtain ⟨q0, q0', q1, q1', q2, q2', q3, q3', q4, q4', q5, q5', q6, q6', q7, q7'⟩ := PF.resL)
                    | (go_at_call 30; with_reducible refine (KAT.out _ hi).mono ?_; rintro e w3 ⟨rfl, hb3⟩; have P3 := P.bel hb3; have i3 := hi.bel hb3)
                    | (go_at_call 41; with_reducible refine (KB1.out _ i3).mono ?_; rintro e w4 ⟨rfl, i4, hg4⟩; have P4 := P3.gr hg4)
                    | (go_at_call 41; with_reducible refine (KB3.out _ i4).mono ?_; rintro e w5 ⟨rfl, i5, hg5⟩; have P5 := P4.gr hg5)
                    | (go_at_call 42; with_reducible refine (KT.out _ i5).mono ?_; rintro e w6 ⟨rfl, i6, hg6⟩; have P6 := P5.gr hg6)
                    | (go_at_call 27; with_reducible refine (KF.out _ i6).mono ?_; rintro e w7 ⟨rfl, hb7⟩; have P7 := P6.bel hb7; have i7 := i6.bel hb7)
                    | (go_at_call 12; refine (KBAD.out _).mono ?_; rintro e w8 ⟨rfl, hb8⟩; have P8 := P7.bel hb8; have i8 := i7.bel hb8; have c8 := P8.file.1.1; have PM := P8.bel (bal (Below.refl w8.heap.size w8) (.cells #[.int .u8 ((h : Int) % 128), .string t] 71)); have iM := i8.bel (bal (Below.refl w8.heap.size w8) (.cells #[.int .u8 ((h : Int) % 128), .string t] 71)); have cM := PM.file.2.2.2.2.1.1; have f0 := Live.fresh w8 #[.int .u8 ((h : Int) % 128), .string t] 71 0 _ rfl; have f1 := Live.fresh w8 #[.int .u8 ((h : Int) % 128), .string t] 71 1 _ rfl; obtain ⟨g0, g0'⟩ := f0; obtain ⟨g1, g1'⟩ := f1)
                    | (go_at_call 43; refine (KS.out _).mono ?_; rintro e wa ⟨rfl, hba⟩; have PA := PM.bel hba; have iA := iM.bel hba; have j0 := (Live.fresh w8 #[.int .u8 ((h : Int) % 128), .string t] 71 0 _ rfl).keep hba; have j1 := (Live.fresh w8 #[.int .u8 ((h : Int) % 128), .string t] 71 1 _ rfl).keep hba; obtain ⟨j0, j0'⟩ := j0; obtain ⟨j1, j1'⟩ := j1)
                    | (go_at_call 30; with_reducible refine (KAT3.out _ iA).mono ?_; rintro e wb ⟨rfl, hbb⟩; have PB := PA.bel hbb)
                    | (go_at_call 36; with_reducible refine (KIN.out _).mono ?_; rintro e wc ⟨r2, rfl, hr2, hi2, hbc⟩; have PC := PB.bel hbc; obtain ⟨o0, o1, o2, o3⟩ := PC.opt)
                    | (go_at_call 9; refine (KPA.out _ _ (HT.out.bel PC.gg) (Nat.le_trans (HT.out.bel PB.gg).sz hr2) hi2).mono ?_; rintro e wd ⟨hid, hgd, rfl⟩; have hbd : Below wb.heap.size wb wd := grown_bel hbc hgd hr2; have PE := (PB.bel hbd).bel (bal (Below.refl wd.heap.size wd) (.cells #[.string ⟨#[]⟩, .int .i64 0, .slice none 0 0] 31)); have ie := InX.bel hid (bal (Below.refl wd.heap.size wd) (.cells #[.string ⟨#[]⟩, .int .i64 0, .slice none 0 0] 31))))
                refine bodyPost_ret (v := .tuple #[.agg #[.slice none 0 0, .string ⟨#[]⟩, .int .i64 0, .slice none 0 0, .int .i64 0, .string ⟨#[]⟩], .agg #[.int .i64 yi.e, .int .i64 yi.a]]) (by simp [results, Tryz.results16, go_sem, q0, q1, q2, q3, q4, q5, q6, q7, q0', q1', q2', q3', q4', q5', q6', q7']) rfl ?_
                rw [HA2.out]
                exact fpost_none PF _ _
              | some b =>
                rw [hp] at kpa
                have hadd : addF (RM fb g) f y y3 h t = (⟨f.ms ++ [⟨4, ⟨#[]⟩⟩], b, f.ms.length, f.sound⟩, 0, 0) := by unfold addF; rw [if_neg he', hst, if_neg (by decide), if_neg hbig, if_pos h4, ← hBB, hp]
                rw [hadd] at hA2
                simp only [ne_eq, not_true, if_false] at hA2
                clear hadd he' hst
                simp only at kpa
                have KAT := Lib.hid kat
                have KB1 := Lib.hid kb1
                have KB3 := Lib.hid kb3
                have KT := Lib.hid kt
                have KF := Lib.hid kf
                have KBAD := Lib.hid kbad
                have KS := Lib.hid ks
                have HA2 := Lib.hid hA2
                have KAT3 := Lib.hid kat3
                have KIN := Lib.hid kin
                have KPA := Lib.hid kpa
                have HZ3 := Lib.hid hz3
                have HZ5 := Lib.hid hz5
                have HMM := Lib.hid hmm
                have HM0 := Lib.hid hm0
                clear kat kb1 kb3 kt kf kbad ks hA2 kat3 kin kpa hz3 hz5 hmm hm0
                have H4 := Lib.hid h4
                have HYN3 := Lib.hid hyn3
                have HS3 := Lib.hid hs3
                have HB3 := Lib.hid hb3
                have HKN := Lib.hid hkn
                have HYN := Lib.hid hyn
                have HK3 := Lib.hid hk3
                clear hyn3 hs3 hb3 hkn hyn hk3
                clear d5 he hbig hp hokX hBB hnt hny hts hyb hys hky hk1 hk2 hh hz h4
                go_wp2_with (first
                    | (go_at_call 30; with_reducible refine (KAT.out _ hi).mono ?_; rintro e w3 ⟨rfl, hb3⟩; have P3 := P.bel hb3; have i3 := hi.bel hb3)
                    | (go_at_call 41; with_reducible refine (KB1.out _ i3).mono ?_; rintro e w4 ⟨rfl, i4, hg4⟩; have P4 := P3.gr hg4)
                    | (go_at_call 41; with_reducible refine (KB3.out _ i4).mono ?_; rintro e w5 ⟨rfl, i5, hg5⟩; have P5 := P4.gr hg5)
                    | (go_at_call 42; with_reducible refine (KT.out _ i5).mono ?_; rintro e w6 ⟨rfl, i6, hg6⟩; have P6 := P5.gr hg6)
                    | (go_at_call 27; with_reducible refine (KF.out _ i6).mono ?_; rintro e w7 ⟨rfl, hb7⟩; have P7 := P6.bel hb7; have i7 := i6.bel hb7)
                    | (go_at_call 12; refine (KBAD.out _).mono ?_; rintro e w8 ⟨rfl, hb8⟩; have P8 := P7.bel hb8; have i8 := i7.bel hb8; have c8 := P8.file.1.1; have PM := P8.bel (bal (Below.refl w8.heap.size w8) (.cells #[.int .u8 ((h : Int) % 128), .string t] 71)); have iM := i8.bel (bal (Below.refl w8.heap.size w8) (.cells #[.int .u8 ((h : Int) % 128), .string t] 71)); have cM := PM.file.2.2.2.2.1.1; have f0 := Live.fresh w8 #[.int .u8 ((h : Int) % 128), .string t] 71 0 _ rfl; have f1 := Live.fresh w8 #[.int .u8 ((h : Int) % 128), .string t] 71 1 _ rfl; obtain ⟨g0, g0'⟩ := f0; obtain ⟨g1, g1'⟩ := f1)
                    | (go_at_call 43; refine (KS.out _).mono ?_; rintro e wa ⟨rfl, hba⟩; have PA := PM.bel hba; have iA := iM.bel hba; have j0 := (Live.fresh w8 #[.int .u8 ((h : Int) % 128), .string t] 71 0 _ rfl).keep hba; have j1 := (Live.fresh w8 #[.int .u8 ((h : Int) % 128), .string t] 71 1 _ rfl).keep hba; obtain ⟨j0, j0'⟩ := j0; obtain ⟨j1, j1'⟩ := j1)
                    | (go_at_call 30; with_reducible refine (KAT3.out _ iA).mono ?_; rintro e wb ⟨rfl, hbb⟩; have PB := PA.bel hbb)
                    | (go_at_call 36; with_reducible refine (KIN.out _).mono ?_; rintro e wc ⟨r2, rfl, hr2, hi2, hbc⟩; have PC := PB.bel hbc; obtain ⟨o0, o1, o2, o3⟩ := PC.opt)
                    | (go_at_call 9; refine (KPA.out _ _ (HT.out.bel PC.gg) (Nat.le_trans (HT.out.bel PB.gg).sz hr2) hi2).mono ?_; rintro e wd ⟨hid, hgd, vn, rfl, hon⟩; obtain ⟨an2, cn2, rfl⟩ := orow_form hon; have hbd : Below wb.heap.size wb wd := grown_bel hbc hgd hr2; have PD := PB.bel hbd; have hbn := bal (Below.refl wd.heap.size wd) (.cells #[.string b.vt, .int .i64 b.vs, .slice an2 b.ns.length cn2] 31); have PE := PD.bel hbn; have hMb : Below (w8.alloc (.cells #[.int .u8 ((h : Int) % 128), .string t] 71)).heap.size (w8.alloc (.cells #[.int .u8 ((h : Int) % 128), .string t] 71)) (wd.alloc (.cells #[.string b.vt, .int .i64 b.vs, .slice an2 b.ns.length cn2] 31)) := bt hba (bt hbb (bt hbd hbn)); obtain ⟨h0, h0', h1, h1', h2, h2', h3, h3', h4, h4', h5, h5'⟩ := PE.fileL; have jj := (Live.fresh w8 #[.int .u8 ((h : Int) % 128), .string t] 71 0 _ rfl).keep hMb; have jk := (Live.fresh w8 #[.int .u8 ((h : Int) % 128), .string t] 71 1 _ rfl).keep hMb; obtain ⟨jj0, jj0'⟩ := jj; obtain ⟨jk0, jk0'⟩ := jk; have hne5 : ¬ w8.heap.size = w2.heap.size := (by have := P8.sz; omega); have hne6 : ¬ w2.heap.size = w8.heap.size := (by have := P8.sz; omega); obtain ⟨n0, n0'⟩ := Live.fresh wd #[.string b.vt, .int .i64 b.vs, .slice an2 b.ns.length cn2] 31 0 _ rfl; obtain ⟨n1, n1'⟩ := Live.fresh wd #[.string b.vt, .int .i64 b.vs, .slice an2 b.ns.length cn2] 31 1 _ rfl; obtain ⟨n2, n2'⟩ := Live.fresh wd #[.string b.vt, .int .i64 b.vs, .slice an2 b.ns.length cn2] 31 2 _ rfl; have PN := (PE.note b _ (f.ms.length : Int) (orow_mono (orow_bel hon hbn) (by have := PC.sz; omega))).other w8.heap.size 1 (.string ⟨#[]⟩) (by have := P8.sz; omega) (fun e => by have := (orow_blk P8.om _ e.symm).2; omega) (fun e => orow_tag hon ((hbd.block w8.heap.size (by have := hbb.size; have := hba.size; simp at this; omega)).trans ((hbb.block w8.heap.size (by have := hba.size; simp at this; omega)).trans ((hba.block w8.heap.size (by simp)).trans (heap_alloc_new _ _)))) (by decide) e.symm))
                    | (at_builtin; go_loud (refine wpList_push1 rfl _ _ 49 71 rfl Tryz.underlying49 (.agg #[.int .u8 0, .string ⟨#[]⟩]) 2 24 infoMeta rfl (by decide) ((((((wd.alloc (.cells #[.string b.vt, .int .i64 b.vs, .slice an2 b.ns.length cn2] 31)).setCell ⟨w2.heap.size, 1, none⟩ (.string b.vt)).setCell ⟨w2.heap.size, 2, none⟩ (.int .i64 b.vs)).setCell ⟨w2.heap.size, 3, none⟩ (.slice an2 b.ns.length cn2)).setCell ⟨w2.heap.size, 4, none⟩ (.int .i64 (f.ms.length : Int))).setCell ⟨w8.heap.size, 1, none⟩ (.string ⟨#[]⟩)) (w2.heap.size + 1) (.slice am f.ms.length cm) f.ms.length (mtcells f.ms) rfl PN.om #[.int .u8 ((h : Int) % 128), .string ⟨#[]⟩] rfl (by simp [Value.oneCell']) (by show Value.slice (some ⟨wd.heap.size + 1, 0, none⟩) 1 1 = Value.slice (some ⟨((((((wd.alloc (.cells #[.string b.vt, .int .i64 b.vs, .slice an2 b.ns.length cn2] 31)).setCell ⟨w2.heap.size, 1, none⟩ (.string b.vt)).setCell ⟨w2.heap.size, 2, none⟩ (.int .i64 b.vs)).setCell ⟨w2.heap.size, 3, none⟩ (.slice an2 b.ns.length cn2)).setCell ⟨w2.heap.size, 4, none⟩ (.int .i64 (f.ms.length : Int))).setCell ⟨w8.heap.size, 1, none⟩ (.string ⟨#[]⟩)).heap.size, 0, none⟩) 1 1; rw [World.size_setCell, World.size_setCell, World.size_setCell, World.size_setCell, World.size_setCell, World.size_alloc]) HZ3.out HZ5.out PN.sz ?_; intro v' wf hownd hbf hkf; obtain ⟨av, cv, rfl⟩ := orow_form hownd; obtain ⟨z0, z0'⟩ := live_of ((hbf.block w2.heap.size (by omega)).trans PN.fb) 0 _ rfl)))
                have h4i : (h : Int) % 128 = ((4 : Nat) : Int) := by have := H4.out; omega
                rw [h4i] at hownd
                have PE2 := PN.push ⟨4, ⟨#[]⟩⟩ _ hownd hbf hkf
                have iN : InX (wd.alloc (.cells #[.string b.vt, .int .i64 b.vs, .slice an2 b.ns.length cn2] 31)) r y3 := (iA.bel (bt hbb (bt hbd hbn)))
                have iE := InX.gr (InC.blk (InX.gr iN (gr_trans (gr_trans (gr_trans (gr_trans (gr_set _ w2.heap.size 1 (.string b.vt)) (gr_set _ w2.heap.size 2 (.int .i64 b.vs))) (gr_set _ w2.heap.size 3 (.slice an2 b.ns.length cn2))) (gr_set _ w2.heap.size 4 (.int .i64 (f.ms.length : Int)))) (gr_refl _ _)) (by have := PA.hH; simp; omega)) rfl) (gr_set _ w8.heap.size 1 (.string ⟨#[]⟩)) (by have := PA.hH; have := P8.sz; simp; omega)
                have iE2 := InX.gr (InC.blk iE (hbf.block r (by have := PA.hH; omega))) (gr_set _ w2.heap.size 0 (.slice av (f.ms.length + 1) cv)) (by have := PA.hH; simp; omega)
                have hmE := measF_false s r _ y3.n (InC.cells iE2).2.1.1
                go_roundw
                case rel => exact ⟨decide ((h : Int) ≥ 128), k', y3, _, _, _, rfl, PE2, iE2, HK3.out, HS3.out, HB3.out, Lib.hid (restF_step HA2.out HYN3.out HKN.out)⟩
                case measure => exact measF_step HM0.out hmE HYN.out HYN3.out
            · have hadd : addF (RM fb g) f y y3 h t = (⟨f.ms ++ [⟨h % 128, t⟩], f.b, f.at_, f.sound⟩, 0, 0) := by unfold addF; rw [if_neg he', hst, if_neg (by decide), if_neg hbig, if_neg h4]
              rw [hadd] at hA2
              simp only [ne_eq, not_true, if_false] at hA2
              clear hadd he' hst
              have d4 : ((h : Int) % 128 == 4) = false := by rw [beq_eq_false_iff_ne]; omega
              have KAT := Lib.hid kat
              have KB1 := Lib.hid kb1
              have KB3 := Lib.hid kb3
              have KT := Lib.hid kt
              have KF := Lib.hid kf
              have KBAD := Lib.hid kbad
              have KS := Lib.hid ks
              have HA2 := Lib.hid hA2
              have HZ3 := Lib.hid hz3
              have HZ5 := Lib.hid hz5
              have HMM := Lib.hid hmm
              have HM0 := Lib.hid hm0
              clear kat kb1 kb3 kt kf kbad ks hA2 hz3 hz5 hmm hm0
              have HYN3 := Lib.hid hyn3
              have HS3 := Lib.hid hs3
              have HB3 := Lib.hid hb3
              have HKN := Lib.hid hkn
              have HYN := Lib.hid hyn
              have HK3 := Lib.hid hk3
              clear hyn3 hs3 hb3 hkn hyn hk3
              clear d5 he h4 hbig hts hyb hys hky hk1 hk2 hh hz
              go_wp2_with (first
                | (go_at_call 30; with_reducible refine (KAT.out _ hi).mono ?_; rintro e w3 ⟨rfl, hb3⟩; have P3 := P.bel hb3; have i3 := hi.bel hb3)
                | (go_at_call 41; with_reducible refine (KB1.out _ i3).mono ?_; rintro e w4 ⟨rfl, i4, hg4⟩; have P4 := P3.gr hg4)
                | (go_at_call 41; with_reducible refine (KB3.out _ i4).mono ?_; rintro e w5 ⟨rfl, i5, hg5⟩; have P5 := P4.gr hg5)
                | (go_at_call 42; with_reducible refine (KT.out _ i5).mono ?_; rintro e w6 ⟨rfl, i6, hg6⟩; have P6 := P5.gr hg6)
                | (go_at_call 27; with_reducible refine (KF.out _ i6).mono ?_; rintro e w7 ⟨rfl, hb7⟩; have P7 := P6.bel hb7; have i7 := i6.bel hb7)
                | (go_at_call 12; refine (KBAD.out _).mono ?_; rintro e w8 ⟨rfl, hb8⟩; have P8 := P7.bel hb8; have i8 := i7.bel hb8; have c8 := P8.file.1.1; have PM := P8.bel (bal (Below.refl w8.heap.size w8) (.cells #[.int .u8 ((h : Int) % 128), .string t] 71)); have iM := i8.bel (bal (Below.refl w8.heap.size w8) (.cells #[.int .u8 ((h : Int) % 128), .string t] 71)); have cM := PM.file.2.2.2.2.1.1; have f0 := Live.fresh w8 #[.int .u8 ((h : Int) % 128), .string t] 71 0 _ rfl; have f1 := Live.fresh w8 #[.int .u8 ((h : Int) % 128), .string t] 71 1 _ rfl; obtain ⟨g0, g0'⟩ := f0; obtain ⟨g1, g1'⟩ := f1)
                | (go_at_call 43; refine (KS.out _).mono ?_; rintro e wa ⟨rfl, hba⟩; have PA := PM.bel hba; have iA := iM.bel hba; have j0 := (Live.fresh w8 #[.int .u8 ((h : Int) % 128), .string t] 71 0 _ rfl).keep hba; have j1 := (Live.fresh w8 #[.int .u8 ((h : Int) % 128), .string t] 71 1 _ rfl).keep hba; obtain ⟨j0, j0'⟩ := j0; obtain ⟨j1, j1'⟩ := j1; have cA := PA.file.1.1)
                | (at_builtin; go_loud (refine wpList_push1 rfl _ _ 49 71 rfl Tryz.underlying49 (.agg #[.int .u8 0, .string ⟨#[]⟩]) 2 24 infoMeta rfl (by decide) wa (w2.heap.size + 1) (.slice am f.ms.length cm) f.ms.length (mtcells f.ms) rfl PA.om #[.int .u8 ((h : Int) % 128), .string t] rfl (by simp [Value.oneCell']) rfl HZ3.out HZ5.out PA.sz ?_; intro v' wd hownd hbd hkd; obtain ⟨av, cv, rfl⟩ := orow_form hownd; obtain ⟨z0, z0'⟩ := live_of ((hbd.block w2.heap.size (by omega)).trans PA.fb) 0 _ rfl)))
              have hownd' : wd.ownsRow (w2.heap.size + 1) 71 2 (.slice av (f.ms.length + 1) cv) (f.ms.length + 1) (mtcells f.ms ++ (#[.int .u8 ((h % 128 : Nat) : Int), .string t] : Array Value).toList) := by rw [HMM.out]; exact hownd
              have PE := PA.push ⟨h % 128, t⟩ _ hownd' hbd hkd
              have iE : InX (wd.setCell ⟨w2.heap.size, 0, none⟩ (.slice av (f.ms.length + 1) cv)) r y3 := InX.gr (InC.blk iA (hbd.block r (by have := PA.hH; omega))) (gr_set _ _ _ _) (by have := PA.hH; simp; omega)
              have hmE := measF_false s r _ y3.n (InC.cells iE).2.1.1
              go_roundw
              case rel => exact ⟨decide ((h : Int) ≥ 128), k', y3, _, _, _, rfl, PE, iE, HK3.out, HS3.out, HB3.out, Lib.hid (restF_step HA2.out HYN3.out HKN.out)⟩
              case measure => exact measF_step HM0.out hmE HYN.out HYN3.out
      · have hadd : addF (RM fb g) f y y3 h t = (noFl, y3.e, y3.a) := by unfold addF; rw [if_pos he]
        rw [hadd] at hA2
        simp only at hA2
        rw [if_pos he] at hA2
        have d5 : (!decide (y3.e = 0)) = true := by simpa using he
        rw [d5] at kbad
        have KAT := Lib.hid kat
        have KB1 := Lib.hid kb1
        have KB3 := Lib.hid kb3
        have KT := Lib.hid kt
        have KF := Lib.hid kf
        have KBAD := Lib.hid kbad
        have HA2 := Lib.hid hA2
        clear kat kb1 kb3 kt kf kbad hA2
        clear hadd d5 he hmv hkn hm0 hs3 hb3 hyn hyb hys hky hk1 hk2 hk3 hh hz
        go_wp2_with (first
          | (go_at_call 27; with_reducible refine (KF.out _ i8).mono ?_; rintro e w9 ⟨rfl, hb9⟩; have P9 := P8.bel hb9; obtain ⟨q0, q0', q1, q1', q2, q2', q3, q3', q4, q4', q5, q5', q6, q6', q7, q7'⟩ := P9.resL)
          | (go_at_call 30; with_reducible refine (KAT.out _ hi).mono ?_; rintro e w3 ⟨rfl, hb3⟩; have P3 := P.bel hb3; have i3 := hi.bel hb3)
          | (go_at_call 41; with_reducible refine (KB1.out _ i3).mono ?_; rintro e w4 ⟨rfl, i4, hg4⟩; have P4 := P3.gr hg4)
          | (go_at_call 41; with_reducible refine (KB3.out _ i4).mono ?_; rintro e w5 ⟨rfl, i5, hg5⟩; have P5 := P4.gr hg5)
          | (go_at_call 42; with_reducible refine (KT.out _ i5).mono ?_; rintro e w6 ⟨rfl, i6, hg6⟩; have P6 := P5.gr hg6)
          | (go_at_call 27; with_reducible refine (KF.out _ i6).mono ?_; rintro e w7 ⟨rfl, hb7⟩; have P7 := P6.bel hb7; have i7 := i6.bel hb7)
          | (go_at_call 12; refine (KBAD.out _).mono ?_; rintro e w8 ⟨rfl, hb8⟩; have P8 := P7.bel hb8; have i8 := i7.bel hb8))
        refine bodyPost_ret (v := .tuple #[.agg #[.slice none 0 0, .string ⟨#[]⟩, .int .i64 0, .slice none 0 0, .int .i64 0, .string ⟨#[]⟩], .agg #[.int .i64 y3.e, .int .i64 y3.a]]) (by simp [results, Tryz.results16, go_sem, q0, q1, q2, q3, q4, q5, q6, q7, q0', q1', q2', q3', q4', q5', q6', q7']) rfl ?_
        rw [HA2.out]
        exact fpost_none P9 _ _
end Go.Proofs.YtogknbpmgflpgaaGreatDoor
/- Walks: the law's Light, Awake (layer 21). -/
namespace Go.Proofs.YtogknbpmgflpgaaGreatDoor
open Go.RowKit
set_option linter.unusedVariables false
set_option linter.unusedSimpArgs false

def lightT (m : Mt) : Bool := decide (m.body.size ≤ 500)
def flightM (f : Fl) : Bool := f.ms.all lightT && decide (f.ms.length ≤ 30) && decide (f.sound.size ≤ 500) && lightM f.b
set_option maxRecDepth 100000 in
set_option maxHeartbeats 4000000 in
theorem flight_any (vm vb : Value) (f : Fl) (w : World) (hrow : FlRow w vm vb f) (hok : okFl f) :
    Calls Tryz.prog 21 #[flV vm vb f] w fun e w' => e = .returned (.bool (flightM f)) ∧ Below w.heap.size w w' := by
  have kl : ∀ w', Below w.heap.size w w' → Calls Tryz.prog 51 #[.agg #[.string f.b.vt, .int .i64 f.b.vs, vb]] w' fun e w'' => e = .returned (.bool (lightM f.b)) ∧ Below w'.heap.size w' w'' := fun w' hb => light_any vb f.b w' (hrow.2.keep hb) hok.1
  obtain ⟨⟨am, cm, rfl, hc⟩, ⟨an, cn, rfl, _⟩⟩ := hrow
  obtain ⟨_, o2, o3, o4, _, _⟩ := hok
  obtain ⟨R, hR⟩ : ∃ R, R = flightM f := ⟨_, rfl⟩
  rw [← hR]
  unfold flightM at hR
  generalize lightM f.b = lm at *
  unfold flV
  obtain ⟨ms, ⟨vt, vs, ns⟩, at_, snd⟩ := f
  simp only at kl hc o2 o3 o4 hR ⊢
  obtain ⟨n, hn⟩ : ∃ n, n = ms.length := ⟨_, rfl⟩
  obtain ⟨nn, hnn⟩ : ∃ nn, nn = ns.length := ⟨_, rfl⟩
  rw [← hn] at o2 hR ⊢
  rw [← hnn] at kl ⊢
  unfold maxLen at o2 o3 o4
  have HC := Lib.hid hc
  have HN := Lib.hid hn
  have HNN := Lib.hid hnn
  have O3 := Lib.hid o3
  have HR := Lib.hid hR
  have KL := Lib.hid kl
  clear hc hn hnn o3 hR kl
  go_enter Tryz.func21, Tryz.ntmps21
  go_wp2_with fail
  obtain ⟨W, hW⟩ : ∃ W, W = w.alloc (.cells #[.slice am n cm, .string vt, .int .i64 vs, .slice an nn cn, .int .i64 at_, .string snd] 51) := ⟨_, rfl⟩
  rw [← hW]
  have hbW : Below w.heap.size w W := by rw [hW]; exact bal (Below.refl _ _) _
  have lc : ∀ (i : Nat) (u : Value), (#[.slice am n cm, .string vt, .int .i64 vs, .slice an nn cn, .int .i64 at_, .string snd] : Array Value)[i]? = some u → W.cell? ⟨w.heap.size, i, none⟩ = some u := by
    intro i u hu; rw [hW]; exact (Live.fresh w _ 51 i u hu).1
  have C0 := Lib.hid (lc 0 _ rfl)
  have C1 := Lib.hid (lc 1 _ rfl)
  have C2 := Lib.hid (lc 2 _ rfl)
  have C3 := Lib.hid (lc 3 _ rfl)
  have C5 := Lib.hid (lc 5 _ rfl)
  clear hW lc
  have HBW := Lib.hid hbW
  clear hbW
  go_loopw [8] (fun iv wr => ∃ k : Nat, iv = .int .i64 (k : Int) ∧ k ≤ n ∧ Hid ((ms.take k).all lightT = true) ∧ Below W.heap.size W wr) (fun iv _ => n - (intOf iv).toNat)
  case atStart => exact ⟨0, rfl, Nat.zero_le _, Lib.hid (by simp), Below.refl _ _⟩
  case round =>
    obtain ⟨k, rfl, hk, hA, hbel⟩ := hrel
    have c0 := kc hbel C0.out
    have c1 := kc hbel C1.out
    have c2 := kc hbel C2.out
    have c3 := kc hbel C3.out
    have c5 := kc hbel C5.out
    by_cases hlt : k < n
    · obtain ⟨x, hx⟩ := at_some ms k (by rw [← HN.out]; exact hlt)
      obtain ⟨g, o, rfl, d0, d1⟩ := mt_at HC.out k x hx
      have d0 := kc hbel (kc HBW.out d0)
      have d1 := kc hbel (kc HBW.out d1)
      obtain ⟨_, b1⟩ := O3.out x (List.mem_of_getElem? hx)
      obtain ⟨s1, s2⟩ := all_step lightT ms k x hx hA.out
      have hl : lightT x = decide (x.body.size ≤ 500) := rfl
      rw [hl] at s1 s2
      have hbz := bal hbel (.cells #[.int .u8 x.kind, .string x.body] 71)
      have S1 := Lib.hid s1
      have S2 := Lib.hid s2
      have HBZ := Lib.hid hbz
      clear s1 s2 hbz
      clear hl
      by_cases q1 : x.body.size ≤ 500
      · have s1 := S1.out (by simp [q1])
        have q1' : ¬ (x.body.size : Int) > 500 := by omega
        have S1' := Lib.hid s1
        clear s1
        clear q1
        go_wp2_with fail
        go_roundw
        case rel => exact ⟨k + 1, by go_num, by omega, S1', HBZ.out⟩
        case measure => simp [intOf]; omega
      · have s2 := S2.out (by simp [q1])
        have q1' : (x.body.size : Int) > 500 := by omega
        have S2' := Lib.hid s2
        clear s2
        clear q1
        go_wp2_with fail
        go_ret
        exact ⟨ret_b (by rw [HR.out, S2'.out]; rfl), HBW.out.trans (HBZ.out.mono HBW.out.size)⟩
    · have hkn : k = n := by omega
      subst hkn
      have ha := hA.out
      rw [List.take_of_length_le (by rw [← HN.out]; exact Nat.le_refl _)] at ha
      have hr := HR.out
      rw [ha, Bool.true_and] at hr
      have hbz := HBW.out.trans (hbel.mono HBW.out.size)
      have HR2 := Lib.hid hr
      have HBZ := Lib.hid hbz
      clear hr hbz
      clear ha hA
      by_cases q1 : k ≤ 30
      · have q1' : decide ((k : Int) ≤ 30) = true := by simp; omega
        by_cases q2 : snd.size ≤ 500
        · have q2' : decide ((snd.size : Int) ≤ 500) = true := by simp; omega
          have hr := HR2.out
          rw [decide_eq_true q1, decide_eq_true q2, Bool.true_and, Bool.true_and] at hr
          have HR3 := Lib.hid hr
          clear hr
          clear q1 q2
          go_wp2_with (go_at_call 51; refine (KL.out _ HBZ.out).mono ?_; rintro e w3 ⟨rfl, hb3⟩)
          go_ret
          exact ⟨ret_b (by rw [HR3.out]; try simp), HBZ.out.trans (hb3.mono HBZ.out.size)⟩
        · have q2' : decide ((snd.size : Int) ≤ 500) = false := by simp; omega
          have hr := HR2.out
          rw [decide_eq_true q1, decide_eq_false q2, Bool.true_and, Bool.false_and] at hr
          have HR3 := Lib.hid hr
          clear hr
          clear q1 q2
          go_wp2_with fail
          go_ret
          exact ⟨ret_b (by rw [HR3.out]; try simp), HBZ.out⟩
      · have q1' : decide ((k : Int) ≤ 30) = false := by simp; omega
        have hr := HR2.out
        rw [decide_eq_false q1, Bool.false_and, Bool.false_and] at hr
        have HR3 := Lib.hid hr
        clear hr
        clear q1
        go_wp2_with fail
        go_ret
        exact ⟨ret_b (by rw [HR3.out]; try simp), HBZ.out⟩
def exS : ByteArray := ⟨#[102, 76, 97, 67, 128, 0, 0, 34, 48, 49, 50, 51, 52, 53, 54, 55, 56, 57, 48, 49, 50, 51, 52, 53, 54, 55, 56, 57, 48, 49, 50, 51, 52, 53, 54, 55, 56, 57, 48, 49, 50, 51, 120]⟩
def exF : Fl := ⟨[⟨0, ⟨#[48, 49, 50, 51, 52, 53, 54, 55, 56, 57, 48, 49, 50, 51, 52, 53, 54, 55, 56, 57, 48, 49, 50, 51, 52, 53, 54, 55, 56, 57, 48, 49, 50, 51]⟩⟩], noBk, -1, ⟨#[120]⟩⟩
theorem ex_check : fcheckM exF = (0, 0) := by decide +kernel
theorem ex_print : fprintL exF = bl exS := by decide +kernel
theorem ex_parse : fparM (RM 0 false) exS = (exF, 0, 0) := by
  have h := fparse_back (R := RM 0 false) (RM_utf 0 false) exF ex_check (by decide +kernel) (by intro m hm; simp [exF] at hm; subst hm; decide)
  have e : (⟨(fprintL exF).toArray⟩ : ByteArray) = exS := by rw [ex_print]
  rw [e] at h
  rw [h]
  rfl
set_option maxRecDepth 100000 in
set_option maxHeartbeats 8000000 in
theorem awake21_any (w : World) (hT : TW w) : Calls Tryz.prog 40 #[] w fun e w' => e = .returned (.bool true) ∧ Below w.heap.size w w' := by
  have k1 : Calls Tryz.prog 16 #[.string exS, .agg #[.int .i64 0, .int .i64 0, .bool false, .int .i64 0]] w fun e w' => Below w.heap.size w w' ∧ ∃ (am : Option Addr) (cm : Nat) (an : Option Addr) (cn : Nat), e = .returned (.tuple #[.agg #[.slice am 1 cm, .string ⟨#[]⟩, .int .i64 0, .slice an 0 cn, .int .i64 (-1), .string ⟨#[120]⟩], .agg #[.int .i64 0, .int .i64 0]]) ∧
      FlRow w' (.slice am 1 cm) (.slice an 0 cn) exF := by
    refine (fparse_any exS 0 0 0 false w hT (by decide)).mono ?_
    rintro e w' ⟨h1, vm, vb, h2, h3, h4⟩
    rw [ex_parse] at h2 h3 h4
    obtain ⟨am, cm, rfl⟩ := orow_form h3
    obtain ⟨an, cn, rfl⟩ := orow_form h4
    exact ⟨h1, am, cm, an, cn, h2, row_owns h3, row_owns h4⟩
  have k3 : ∀ w' am cm an cn, TW w' → FlRow w' (.slice am 1 cm) (.slice an 0 cn) exF → Calls Tryz.prog 22 #[.agg #[.slice am 1 cm, .string ⟨#[]⟩, .int .i64 0, .slice an 0 cn, .int .i64 (-1), .string ⟨#[120]⟩]] w' fun e w'' => e = .returned (.tuple #[.string exS, .agg #[.int .i64 0, .int .i64 0]]) ∧ Below w'.heap.size w' w'' := by
    intro w' am cm an cn hT' hrow
    have h := fprint_any (.slice am 1 cm) (.slice an 0 cn) exF w' hT' hrow ⟨⟨by decide, by decide, fun n hn => by cases hn⟩, by decide, by intro m hm; simp [exF] at hm; subst hm; decide, by decide, by decide⟩ (by decide +kernel) (by intro m hm; simp [exF] at hm; subst hm; decide) (by rw [ex_print]; decide)
    unfold FPrintPost at h
    rw [ex_check, ex_print] at h
    exact h
  have k5 := fun w hT => awake19_any w hT
  have k6 := fun w => bad_any 0 0 w
  have hB := Below.refl w.heap.size w
  have HS : (⟨#[102, 76, 97, 67, 128, 0, 0, 34, 48, 49, 50, 51, 52, 53, 54, 55, 56, 57, 48, 49, 50, 51, 52, 53, 54, 55, 56, 57, 48, 49, 50, 51, 52, 53, 54, 55, 56, 57, 48, 49, 50, 51, 120]⟩ : ByteArray) = exS := rfl
  have HE : (exS.toList == exS.toList) = true := by simp
  have K1 := Lib.hid k1
  have K3 := Lib.hid k3
  have K5 := Lib.hid k5
  have K6 := Lib.hid k6
  have HT := Lib.hid hT
  clear k1 k3 k5 k6 hT
  go_enter Tryz.func40, Tryz.ntmps40
  rw [HS]
  generalize exS = S at *
  generalize hF : exF = F at *
  clear HS hF
  go_wp2_with (first
    | (go_at_call 16; refine (K1.out).mono ?_; rintro e w1 ⟨hb1, am, cm, an, cn, rfl, hrow⟩; have hba := bal (bal (Below.refl w1.heap.size w1) (.cells #[.slice am 1 cm, .string ⟨#[]⟩, .int .i64 0, .slice an 0 cn, .int .i64 (-1), .string ⟨#[120]⟩] 51)) (.cells #[.int .i64 0, .int .i64 0] 38); have hb2 := bt hb1 hba; have hrow2 : FlRow _ _ _ _ := ⟨hrow.1.keep hba, hrow.2.keep hba⟩)
    | (go_at_call 22; refine (K3.out _ _ _ _ _ (HT.out.bel hb2) hrow2).mono ?_; rintro e w3 ⟨rfl, hb3⟩; have hb4 := bal hb3 (.cells #[.int .i64 0, .int .i64 0] 38))
    | (go_at_call 26; refine (K5.out _ (HT.out.bel (bt hb2 hb4))).mono ?_; rintro e w5 ⟨rfl, hb5⟩; have hb6 := bt hb4 hb5; have hb8 := bt hb2 hb6; have L0 := ((Live.fresh w1 #[.slice am 1 cm, .string ⟨#[]⟩, .int .i64 0, .slice an 0 cn, .int .i64 (-1), .string ⟨#[120]⟩] 51 0 _ rfl).alloc (.cells #[.int .i64 0, .int .i64 0] 38)).keep hb6; have L4 := ((Live.fresh w1 #[.slice am 1 cm, .string ⟨#[]⟩, .int .i64 0, .slice an 0 cn, .int .i64 (-1), .string ⟨#[120]⟩] 51 4 _ rfl).alloc (.cells #[.int .i64 0, .int .i64 0] 38)).keep hb6; have L5 := ((Live.fresh w1 #[.slice am 1 cm, .string ⟨#[]⟩, .int .i64 0, .slice an 0 cn, .int .i64 (-1), .string ⟨#[120]⟩] 51 5 _ rfl).alloc (.cells #[.int .i64 0, .int .i64 0] 38)).keep hb6; obtain ⟨l0, _⟩ := L0; obtain ⟨l4, _⟩ := L4; obtain ⟨l5, _⟩ := L5; obtain ⟨g0, _⟩ := (Live.fresh (w1.alloc (.cells #[.slice am 1 cm, .string ⟨#[]⟩, .int .i64 0, .slice an 0 cn, .int .i64 (-1), .string ⟨#[120]⟩] 51)) #[.int .i64 0, .int .i64 0] 38 0 _ rfl).keep hb6; obtain ⟨g1, _⟩ := (Live.fresh (w1.alloc (.cells #[.slice am 1 cm, .string ⟨#[]⟩, .int .i64 0, .slice an 0 cn, .int .i64 (-1), .string ⟨#[120]⟩] 51)) #[.int .i64 0, .int .i64 0] 38 1 _ rfl).keep hb6; rw [World.size_alloc] at g0 g1; obtain ⟨p0, _⟩ := (Live.fresh w3 #[.int .i64 0, .int .i64 0] 38 0 _ rfl).keep hb5; obtain ⟨p1, _⟩ := (Live.fresh w3 #[.int .i64 0, .int .i64 0] 38 1 _ rfl).keep hb5)
    | (go_at_call 12; refine (K6.out _).mono ?_; rintro e w7 ⟨rfl, hb7⟩; have p0 := kc hb7 p0; have p1 := kc hb7 p1; have l0 := kc hb7 l0; have l4 := kc hb7 l4; have l5 := kc hb7 l5; have hb8 := bt hb8 hb7))
  go_ret
  exact ⟨ret_b (by simp), hb8⟩
theorem awake21in_any (w : World) (hT : TW w) : Calls Tryz.prog 15 #[] w fun e w' => e = .returned (.bool true) ∧ Below w.heap.size w w' := by
  have KA := Lib.hid awake21_any
  go_enter Tryz.func15, Tryz.ntmps15
  go_wp2_with (go_at_call 40; refine (KA.out _ hT).mono ?_; rintro e w1 ⟨rfl, hb1⟩)
  go_ret
  exact ⟨rfl, hb1⟩
theorem light_smB {b : Bk} (h : lightM b = true) : smBk b ∧ b.ns.length ≤ 30 ∧ b.vt.size ≤ 150 ∧ ∀ n ∈ b.ns, n.name.size ≤ 50 ∧ n.text.size ≤ 150 := by
  unfold lightM at h
  simp only [Bool.and_eq_true, decide_eq_true_eq] at h
  obtain ⟨⟨h1, h2⟩, h3⟩ := h
  have h4 : ∀ n ∈ b.ns, n.name.size ≤ 50 ∧ n.text.size ≤ 150 := by
    intro n hn
    have := List.all_eq_true.1 h1 n hn
    unfold lightN at this
    simpa using this
  exact ⟨⟨by omega, by omega, fun n hn => by have := h4 n hn; omega⟩, h2, h3, h4⟩
theorem lnote_small (n : Nt) (h1 : n.name.size ≤ 50) (h2 : n.text.size ≤ 150) : (noteL n).length ≤ 205 := by
  unfold noteL sizedL
  simp only [List.length_append, bl_length]
  show 4 + (_ + 1 + _) ≤ _
  omega
theorem lprint_small (b : Bk) (h1 : b.ns.length ≤ 30) (h2 : b.vt.size ≤ 150) (h3 : ∀ n ∈ b.ns, n.name.size ≤ 50 ∧ n.text.size ≤ 150) : (printL false b).length ≤ 100000 := by
  have hl : ∀ l : List Nt, (∀ n ∈ l, n.name.size ≤ 50 ∧ n.text.size ≤ 150) → (l.flatMap noteL).length ≤ 205 * l.length := by
    intro l
    induction l with
    | nil => intro _; exact Nat.zero_le _
    | cons n l ih =>
      intro h
      have := lnote_small n (h n (List.mem_cons_self ..)).1 (h n (List.mem_cons_self ..)).2
      have := ih (fun m hm => h m (List.mem_cons_of_mem _ hm))
      rw [List.flatMap_cons, List.length_append, List.length_cons]
      omega
  have := hl b.ns h3
  unfold printL sizedL
  simp only [List.length_append, bl_length]
  have h4 : (le4 b.vt.size).length = 4 := rfl
  have h5 : (le4 b.ns.length).length = 4 := rfl
  rw [h4, h5]
  generalize (b.ns.flatMap noteL).length = q at *
  show _ + 0 ≤ _
  omega
theorem metasL_le (b : Bk) (N : Nat) : ∀ (l : List Mt), (∀ m ∈ l, (bodyL b m).length ≤ N) → (metasL b l).length ≤ l.length * (4 + N) := by
  intro l
  induction l with
  | nil => intro _; exact Nat.zero_le _
  | cons m l ih =>
    intro h
    have h1 := ih fun x hx => h x (List.mem_cons_of_mem _ hx)
    have h2 := h m (List.mem_cons_self ..)
    rw [metasL, List.length_append, metaL_len, List.length_cons, Nat.succ_mul]
    omega
theorem light_smF {f : Fl} (h : flightM f = true) : smFl f ∧ f.ms.length ≤ 30 ∧ (∀ m ∈ f.ms, m.body.size ≤ 500) ∧ f.sound.size ≤ 500 ∧ (printL false f.b).length ≤ 100000 ∧ (∀ m ∈ f.ms, (bodyL f.b m).length ≤ 100000) ∧ (fprintL f).length ≤ 4000000 ∧ f.b.ns.length ≤ 30 := by
  unfold flightM at h
  simp only [Bool.and_eq_true, decide_eq_true_eq] at h
  obtain ⟨⟨⟨h1, h2⟩, h3⟩, h4⟩ := h
  obtain ⟨b1, b2, b3, b4⟩ := light_smB h4
  have h5 : ∀ m ∈ f.ms, m.body.size ≤ 500 := by
    intro m hm
    have := List.all_eq_true.1 h1 m hm
    unfold lightT at this
    simpa using this
  have h6 := lprint_small f.b b2 b3 b4
  have h7 : ∀ m ∈ f.ms, (bodyL f.b m).length ≤ 100000 := by
    intro m hm
    unfold bodyL
    split
    · exact h6
    · rw [bl_length]; have := h5 m hm; omega
  have h8 := metasL_le f.b 100000 f.ms h7
  refine ⟨⟨b1, by omega, fun m hm => by have := h5 m hm; omega, by omega, by omega⟩, h2, h5, h3, h6, h7, ?_, b2⟩
  unfold fprintL
  simp only [List.length_append, bl_length]
  have h9 : letters.size = 4 := rfl
  rw [h9]
  have : f.ms.length * (4 + 100000) ≤ 30 * (4 + 100000) := Nat.mul_le_mul_right _ h2
  omega
end Go.Proofs.YtogknbpmgflpgaaGreatDoor
