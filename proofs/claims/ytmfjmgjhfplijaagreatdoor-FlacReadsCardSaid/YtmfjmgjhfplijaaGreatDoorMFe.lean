/- Fe -/
import Derived.Test.YtmfjmgjhfplijaaGreatDoorMAy
import Derived.Test.YtmfjmgjhfplijaaGreatDoorMFy
set_option linter.unusedVariables false
set_option linter.unusedSimpArgs false
set_option maxHeartbeats 40000000
namespace Go.Proofs.YtmfjmgjhfplijaaGreatDoor
open Go.RowKit
theorem infoMeta : (Tryz.prog.info? 102).map (fun i=>(i.zero,i.size,i.bytes)) = some (some (.agg #[.int .u8 0,.string ⟨#[]⟩]),2,24):=by kernel_rfl
theorem mtcells_snoc (l : List Mt) (m : Mt) : mtcells (l ++ [m]) = mtcells l ++ (#[.int .u8 m.kind,.string m.body] : Array Value).toList:=by rw [mtcells_append];rfl
structure FS (w : World) (r H : Nat) (kd fb bu : Int) (g : Bool) (f : Fl) (vm vb : Value) (wr : World) : Prop where
 gg : Below w.heap.size w wr
 op : wr.heap[w.heap.size]? = some (.cells #[.int .i64 kd,.int .i64 fb,.bool g,.int .i64 bu] 39 (0,0))
 rf : wr.heap[w.heap.size + 1]? = some (.cells #[.slice none 0 0,.string ⟨#[]⟩,.int .i64 0,.slice none 0 0,.int .i64 0,.string ⟨#[]⟩] 31 (0,0))
 rt : wr.heap[w.heap.size + 1 + 1]? = some (.cells #[.int .i64 0,.int .i64 0] 34 (0,0))
 fb : wr.heap[H]? = some (.cells #[vm,.string f.b.vt,.int .i64 f.b.vs,vb,.int .i64 f.at_,.string ⟨#[]⟩] 31 (0,0))
 om : wr.ownsRow (H + 1) 102 2 vm f.ms.length (mtcells f.ms)
 on : wr.ownsRow (H + 1) 165 3 vb f.b.ns.length (ntcells f.b.ns)
 hr : w.heap.size + 3 ≤ r
 hH : r < H
section
variable {w wr : World} {r H : Nat} {kd fb bu : Int} {g : Bool} {f : Fl} {vm vb : Value}
theorem FS.gr (h : FS w r H kd fb bu g f vm vb wr) {w' : World} (hg : wr.grownBy w' (some r)) : FS w r H kd fb bu g f vm vb w':=by
 obtain ⟨a,b,c,d,e,f1,f2,h1,h2⟩:=h
 refine ⟨grown_bel a hg (by omega),?_,?_,?_,?_,?_,?_,h1,h2⟩
 · exact (hg.block _ (Array.getElem?_eq_some_iff.1 b).1 (by simp;omega)).trans b
 · exact (hg.block _ (Array.getElem?_eq_some_iff.1 c).1 (by simp;omega)).trans c
 · exact (hg.block _ (Array.getElem?_eq_some_iff.1 d).1 (by simp;omega)).trans d
 · exact (hg.block _ (Array.getElem?_eq_some_iff.1 e).1 (by simp;omega)).trans e
 · exact orow_other f1 fun q hq=>hg.block q (orow_blk f1 q hq).2 (by have:=(orow_blk f1 q hq).1;simp;omega)
 · exact orow_other f2 fun q hq=>hg.block q (orow_blk f2 q hq).2 (by have:=(orow_blk f2 q hq).1;simp;omega)
theorem FS.bel (h : FS w r H kd fb bu g f vm vb wr) {w' : World} (hb : Below wr.heap.size wr w') : FS w r H kd fb bu g f vm vb w':=h.gr (gr_below hb)
theorem FS.sz (h : FS w r H kd fb bu g f vm vb wr) : H + 1 ≤ wr.heap.size:=(Array.getElem?_eq_some_iff.1 h.fb).1
theorem FS.opt (h : FS w r H kd fb bu g f vm vb wr) : wr.cell? ⟨w.heap.size,0,none⟩ = some (.int .i64 kd) ∧ wr.cell? ⟨w.heap.size,1,none⟩ = some (.int .i64 fb) ∧ wr.cell? ⟨w.heap.size,2,none⟩ = some (.bool g) ∧ wr.cell? ⟨w.heap.size,3,none⟩ = some (.int .i64 bu):=
 ⟨(live_of h.op 0 _ rfl).1,(live_of h.op 1 _ rfl).1,(live_of h.op 2 _ rfl).1,(live_of h.op 3 _ rfl).1⟩
theorem FS.file (h : FS w r H kd fb bu g f vm vb wr) : Live wr H 0 vm ∧ Live wr H 1 (.string f.b.vt) ∧ Live wr H 2 (.int .i64 f.b.vs) ∧ Live wr H 3 vb ∧ Live wr H 4 (.int .i64 f.at_) ∧ Live wr H 5 (.string ⟨#[]⟩):=
 ⟨live_of h.fb 0 _ rfl,live_of h.fb 1 _ rfl,live_of h.fb 2 _ rfl,live_of h.fb 3 _ rfl,live_of h.fb 4 _ rfl,live_of h.fb 5 _ rfl⟩
theorem FS.res (h : FS w r H kd fb bu g f vm vb wr) : Live wr (w.heap.size + 1) 0 (.slice none 0 0) ∧ Live wr (w.heap.size + 1) 1 (.string ⟨#[]⟩) ∧ Live wr (w.heap.size + 1) 2 (.int .i64 0) ∧ Live wr (w.heap.size + 1) 3 (.slice none 0 0) ∧ Live wr (w.heap.size + 1) 4 (.int .i64 0) ∧ Live wr (w.heap.size + 1) 5 (.string ⟨#[]⟩) ∧ Live wr (w.heap.size + 1 + 1) 0 (.int .i64 0) ∧ Live wr (w.heap.size + 1 + 1) 1 (.int .i64 0):=
 ⟨live_of h.rf 0 _ rfl,live_of h.rf 1 _ rfl,live_of h.rf 2 _ rfl,live_of h.rf 3 _ rfl,live_of h.rf 4 _ rfl,live_of h.rf 5 _ rfl,live_of h.rt 0 _ rfl,live_of h.rt 1 _ rfl⟩
theorem FS.resL (h : FS w r H kd fb bu g f vm vb wr) : wr.cell? ⟨w.heap.size + 1,0,none⟩ = some (.slice none 0 0) ∧ wr.frozen? ⟨w.heap.size + 1,0,none⟩ = false ∧ wr.cell? ⟨w.heap.size + 1,1,none⟩ = some (.string ⟨#[]⟩) ∧ wr.frozen? ⟨w.heap.size + 1,1,none⟩ = false ∧ wr.cell? ⟨w.heap.size + 1,2,none⟩ = some (.int .i64 0) ∧ wr.frozen? ⟨w.heap.size + 1,2,none⟩ = false ∧ wr.cell? ⟨w.heap.size + 1,3,none⟩ = some (.slice none 0 0) ∧ wr.frozen? ⟨w.heap.size + 1,3,none⟩ = false ∧ wr.cell? ⟨w.heap.size + 1,4,none⟩ = some (.int .i64 0) ∧ wr.frozen? ⟨w.heap.size + 1,4,none⟩ = false ∧ wr.cell? ⟨w.heap.size + 1,5,none⟩ = some (.string ⟨#[]⟩) ∧ wr.frozen? ⟨w.heap.size + 1,5,none⟩ = false ∧ wr.cell? ⟨w.heap.size + 1 + 1,0,none⟩ = some (.int .i64 0) ∧ wr.frozen? ⟨w.heap.size + 1 + 1,0,none⟩ = false ∧ wr.cell? ⟨w.heap.size + 1 + 1,1,none⟩ = some (.int .i64 0) ∧ wr.frozen? ⟨w.heap.size + 1 + 1,1,none⟩ = false:=
 ⟨h.res.1.1,h.res.1.2,h.res.2.1.1,h.res.2.1.2,h.res.2.2.1.1,h.res.2.2.1.2,h.res.2.2.2.1.1,h.res.2.2.2.1.2,h.res.2.2.2.2.1.1,h.res.2.2.2.2.1.2,h.res.2.2.2.2.2.1.1,h.res.2.2.2.2.2.1.2,h.res.2.2.2.2.2.2.1.1,h.res.2.2.2.2.2.2.1.2,h.res.2.2.2.2.2.2.2.1,h.res.2.2.2.2.2.2.2.2⟩
theorem FS.fileL (h : FS w r H kd fb bu g f vm vb wr) : wr.cell? ⟨H,0,none⟩ = some (vm) ∧ wr.frozen? ⟨H,0,none⟩ = false ∧ wr.cell? ⟨H,1,none⟩ = some (.string f.b.vt) ∧ wr.frozen? ⟨H,1,none⟩ = false ∧ wr.cell? ⟨H,2,none⟩ = some (.int .i64 f.b.vs) ∧ wr.frozen? ⟨H,2,none⟩ = false ∧ wr.cell? ⟨H,3,none⟩ = some (vb) ∧ wr.frozen? ⟨H,3,none⟩ = false ∧ wr.cell? ⟨H,4,none⟩ = some (.int .i64 f.at_) ∧ wr.frozen? ⟨H,4,none⟩ = false ∧ wr.cell? ⟨H,5,none⟩ = some (.string ⟨#[]⟩) ∧ wr.frozen? ⟨H,5,none⟩ = false:=
 ⟨h.file.1.1,h.file.1.2,h.file.2.1.1,h.file.2.1.2,h.file.2.2.1.1,h.file.2.2.1.2,h.file.2.2.2.1.1,h.file.2.2.2.1.2,h.file.2.2.2.2.1.1,h.file.2.2.2.2.1.2,h.file.2.2.2.2.2.1,h.file.2.2.2.2.2.2⟩
theorem FS.note (h : FS w r H kd fb bu g f vm vb wr) (b : Bk) (vb' : Value) (a : Int) (ho : wr.ownsRow (H + 1) 165 3 vb' b.ns.length (ntcells b.ns)) :
 FS w r H kd fb bu g ⟨f.ms,b,a,f.sound⟩ vm vb' ((((wr.setCell ⟨H,1,none⟩ (.string b.vt)).setCell ⟨H,2,none⟩ (.int .i64 b.vs)).setCell ⟨H,3,none⟩ vb').setCell ⟨H,4,none⟩ (.int .i64 a)):=by
 obtain ⟨h0,h1,h2,h3,h4,h5,h6,h7,h8⟩:=h
 have s1:=Go.Lib.heap_setCell_same (i:=1) h4 (.string b.vt)
 have s2:=Go.Lib.heap_setCell_same (i:=2) s1 (.int .i64 b.vs)
 have s3:=Go.Lib.heap_setCell_same (i:=3) s2 vb'
 have s4:=Go.Lib.heap_setCell_same (i:=4) s3 (.int .i64 a)
 have hb : ∀ j,j ≠ H → ((((wr.setCell ⟨H,1,none⟩ (.string b.vt)).setCell ⟨H,2,none⟩ (.int .i64 b.vs)).setCell ⟨H,3,none⟩ vb').setCell ⟨H,4,none⟩ (.int .i64 a)).heap[j]? = wr.heap[j]?:=by
  intro j hj
  rw [Below.heap_setCell _ _ _ j (by simpa using hj),Below.heap_setCell _ _ _ j (by simpa using hj),Below.heap_setCell _ _ _ j (by simpa using hj),Below.heap_setCell _ _ _ j (by simpa using hj)]
 refine ⟨(((h0.setCell (by simp;omega) _).setCell (by simp;omega) _).setCell (by simp;omega) _).setCell (by simp;omega) _,?_,?_,?_,?_,?_,?_,h7,h8⟩
 · rw [hb _ (by omega)];exact h1
 · rw [hb _ (by omega)];exact h2
 · rw [hb _ (by omega)];exact h3
 · rw [s4];simp
 · exact orow_other h5 fun q hq=>hb q (by have:=(orow_blk h5 q hq).1;omega)
 · exact orow_other ho fun q hq=>hb q (by have:=(orow_blk ho q hq).1;omega)
theorem FS.push (h : FS w r H kd fb bu g f vm vb wr) {w' : World} (m : Mt) (vm' : Value) (ho : w'.ownsRow (H + 1) 102 2 vm' (f.ms.length + 1) (mtcells f.ms ++ (#[.int .u8 m.kind,.string m.body] : Array Value).toList)) (hb : Below (H + 1) wr w')
 (hk : ∀ k,k < wr.heap.size → some k ≠ vm.ownBlock → w'.heap[k]? = wr.heap[k]?) :
 FS w r H kd fb bu g ⟨f.ms ++ [m],f.b,f.at_,f.sound⟩ vm' vb (w'.setCell ⟨H,0,none⟩ vm'):=by
 obtain ⟨h0,h1,h2,h3,h4,h5,h6,h7,h8⟩:=h
 have h4':=(hb.block H (by omega)).trans h4
 have s1:=Go.Lib.heap_setCell_same (i:=0) h4' vm'
 have hj : ∀ j,j ≠ H → (w'.setCell ⟨H,0,none⟩ vm').heap[j]? = w'.heap[j]?:=fun j hj=>Below.heap_setCell _ _ _ j (by simpa using hj)
 refine ⟨(h0.trans (hb.mono (by omega))).setCell (by simp;omega) _,?_,?_,?_,?_,?_,?_,h7,h8⟩
 · rw [hj _ (by omega)];exact (hb.block _ (by omega)).trans h1
 · rw [hj _ (by omega)];exact (hb.block _ (by omega)).trans h2
 · rw [hj _ (by omega)];exact (hb.block _ (by omega)).trans h3
 · rw [s1];simp
 · simp only
   rw [mtcells_snoc,List.length_append]
   exact orow_other ho fun q hq=>hj q (by have:=(orow_blk ho q hq).1;omega)
 · refine orow_other h6 fun q hq=>?_
   have hq2:=orow_blk h6 q hq
   rw [hj q (by omega)]
   exact hk q hq2.2 (fun e=>orow_ne h6 h5 (by decide) q hq e.symm)
theorem FS.other (h : FS w r H kd fb bu g f vm vb wr) (M o : Nat) (v : Value) (hM : H < M) (hm : some M ≠ vm.ownBlock) (hn : some M ≠ vb.ownBlock) : FS w r H kd fb bu g f vm vb (wr.setCell ⟨M,o,none⟩ v):=by
 obtain ⟨h0,h1,h2,h3,h4,h5,h6,h7,h8⟩:=h
 have hj : ∀ j,j ≠ M → (wr.setCell ⟨M,o,none⟩ v).heap[j]? = wr.heap[j]?:=fun j hj=>Below.heap_setCell _ _ _ j (by simpa using hj)
 refine ⟨h0.setCell (by simp;omega) _,?_,?_,?_,?_,?_,?_,h7,h8⟩
 · rw [hj _ (by omega)];exact h1
 · rw [hj _ (by omega)];exact h2
 · rw [hj _ (by omega)];exact h3
 · rw [hj _ (by omega)];exact h4
 · exact orow_other h5 fun q hq=>hj q (fun e=>hm (by rw [hq,e]))
 · exact orow_other h6 fun q hq=>hj q (fun e=>hn (by rw [hq,e]))
end
def FParsePost (p : Fl × Int × Int) (w : World) (e : Ending) (w' : World) : Prop:=Below w.heap.size w w' ∧ ∃ vm vb,e = .returned (.tuple #[flV vm vb p.1,.agg #[.int .i64 p.2.1,.int .i64 p.2.2]]) ∧
 w'.ownsRow w.heap.size 102 2 vm p.1.ms.length (mtcells p.1.ms) ∧ w'.ownsRow w.heap.size 165 3 vb p.1.b.ns.length (ntcells p.1.b.ns)
def noFV : Value:=.agg #[.slice none 0 0,.string ⟨#[]⟩,.int .i64 0,.slice none 0 0,.int .i64 0,.string ⟨#[]⟩]
theorem fpost_none {w w5 : World} {r H : Nat} {kd fb bu : Int} {g : Bool} {f : Fl} {vm vb : Value} (hP : FS w r H kd fb bu g f vm vb w5) (e a : Int) :
 FParsePost (noFl,e,a) w (.returned (.tuple #[noFV,.agg #[.int .i64 e,.int .i64 a]])) ((((((((w5.setCell ⟨w.heap.size + 1,0,none⟩ (.slice none 0 0)).setCell ⟨w.heap.size + 1,1,none⟩ (.string ⟨#[]⟩)).setCell ⟨w.heap.size + 1,2,none⟩ (.int .i64 0)).setCell ⟨w.heap.size + 1,3,none⟩ (.slice none 0 0)).setCell ⟨w.heap.size + 1,4,none⟩ (.int .i64 0)).setCell ⟨w.heap.size + 1,5,none⟩ (.string ⟨#[]⟩)).setCell ⟨w.heap.size + 1 + 1,0,none⟩ (.int .i64 e)).setCell ⟨w.heap.size + 1 + 1,1,none⟩ (.int .i64 a)):=
 ⟨(((((((hP.gg.setCell (by simp <;> omega) _).setCell (by simp <;> omega) _).setCell (by simp <;> omega) _).setCell (by simp <;> omega) _).setCell (by simp <;> omega) _).setCell (by simp <;> omega) _).setCell (by simp <;> omega) _).setCell (by simp <;> omega) _,.slice none 0 0,.slice none 0 0,rfl,World.ownsRow_nil _ _ _ _,World.ownsRow_nil _ _ _ _⟩
theorem failR_b (x : RS) (e a : Int) : (failR x e a).b = x.b:=by unfold failR;split <;> rfl
theorem takeR_b (x : RS) (k : Int) : (takeR x k).1.b = x.b:=by
 unfold takeR
 split
 · rfl
 · split
   · exact failR_b _ _ _
   · rfl
theorem wantR_b (x : RS) (t : ByteArray) : (wantR x t).1.b = x.b:=by
 unfold wantR
 split
 · rfl
 · split
   · exact failR_b _ _ _
   · split
     · exact failR_b _ _ _
     · rfl
theorem wantR_s (x : RS) (t : ByteArray) : (wantR x t).1.s = x.s:=by
 unfold wantR
 split
 · rfl
 · split
   · exact failR_s _ _ _
   · split
     · exact failR_s _ _ _
     · rfl
theorem bigR_lt (x : RS) (k : Nat) (h : k ≤ 3) : (bigR x k).2 < 16777216:=by
 unfold bigR
 refine Nat.lt_of_lt_of_le (beN_lt _) ?_
 have : (bl (takeR x k).2).length ≤ 3:=by rw [bl_length];exact Nat.le_trans (takeR_size x k) h
 exact Nat.le_trans (Nat.pow_le_pow_right (by decide) this) (by decide)
theorem bigR_1 (x : RS) : (bigR x 1).2 < 256:=by
 unfold bigR
 refine Nat.lt_of_lt_of_le (beN_lt _) ?_
 have : (bl (takeR x (1 : Nat)).2).length ≤ 1:=by rw [bl_length];exact takeR_size x 1
 exact Nat.le_trans (Nat.pow_le_pow_right (by decide) this) (by decide)
def restF (R : List UInt8 → Int) (s : ByteArray) (RES : Fl × Int × Int) (k : Nat) (lb : Bool) (y : RS) (f : Fl) : Prop:=
 if lb = true then RES = (⟨f.ms,f.b,f.at_,(takeR y (leftR y)).2⟩,0,0) else RES = fparL R k y f ∧ s.size + 1 ≤ k + y.n
def measF (s : ByteArray) (r : Nat) (lv : Value) (wr : World) : Nat:=match lv with
 | .bool true=>0
 | _=>match wr.cell? ⟨r,1,none⟩ with
  | some (.int _ n)=>s.size + 1 - n.toNat
  | _=>0
theorem measF_false (s : ByteArray) (r : Nat) (wr : World) (n : Nat) (h : wr.cell? ⟨r,1,none⟩ = some (.int .i64 n)) : measF s r (.bool false) wr = s.size + 1 - n:=by
 unfold measF;rw [h];simp
theorem measF_true (s : ByteArray) (r : Nat) (wr : World) : measF s r (.bool true) wr = 0:=rfl
theorem restF_step {R : List UInt8 → Int} {s : ByteArray} {RES : Fl × Int × Int} {k h n m : Nat} {y3 : RS} {f : Fl}
 (hA : RES = if 128 ≤ h then (⟨f.ms,f.b,f.at_,(takeR y3 (leftR y3)).2⟩,0,0) else fparL R k y3 f) (hn : y3.n = n + (4 + m)) (hk : s.size + 1 ≤ k + 1 + n) : restF R s RES k (decide ((h : Int) ≥ 128)) y3 f:=by
 unfold restF
 by_cases hh : 128 ≤ h
 · rw [if_pos (by simp;omega)]
   rw [if_pos hh] at hA
   exact hA
 · rw [if_neg (by simp;omega)]
   rw [if_neg hh] at hA
   exact ⟨hA,by omega⟩
theorem measF_step {s : ByteArray} {r h n n3 m : Nat} {wr wE : World} (h0 : measF s r (.bool false) wr = s.size + 1 - n) (hE : measF s r (.bool false) wE = s.size + 1 - n3) (hn : n ≤ s.size) (h3 : n3 = n + (4 + m)) :
 measF s r (.bool (decide ((h : Int) ≥ 128))) wE < measF s r (.bool false) wr:=by
 cases decide ((h : Int) ≥ 128) with
 | true=>rw [measF_true,h0];omega
 | false=>rw [hE,h0];omega
set_option maxRecDepth 100000 in
theorem fparse_any (s : ByteArray) (kd fb bu : Int) (g : Bool) (w : World) (hT : TW w) (hs : s.size ≤ 1048576) :
 Calls Tryz.prog 9 #[.string s,.agg #[.int .i64 kd,.int .i64 fb,.bool g,.int .i64 bu]] w (FParsePost (fparM (RM fb g) s) w):=by
 obtain ⟨RES,hRES⟩ : ∃ RES,RES = fparM (RM fb g) s:=⟨_,rfl⟩
 rw [← hRES]
 unfold fparM at hRES
 have kr:=fun w=>readX_any s w
 have hk0 : okR ⟨s,0,0,0,0⟩:=⟨Nat.zero_le _,by show s.size ≤ _;omega,Nat.zero_le _⟩
 have kw:=fun w r h=>inx_want w r ⟨s,0,0,0,0⟩ letters h hk0 (by decide)
 have hky:=okR_want hk0 letters
 have hys:=wantR_s ⟨s,0,0,0,0⟩ letters
 have hyb:=wantR_b ⟨s,0,0,0,0⟩ letters
 simp only at hys hyb
 generalize wantR ⟨s,0,0,0,0⟩ letters = WV at *
 obtain ⟨y0,wb⟩:=WV
 simp only at kw hky hys hyb hRES
 unfold letters at kw
 obtain ⟨W,hW⟩ : ∃ W,W = ((w.alloc (.cells #[.int .i64 kd,.int .i64 fb,.bool g,.int .i64 bu] 39)).alloc (.cells #[.slice none 0 0,.string ⟨#[]⟩,.int .i64 0,.slice none 0 0,.int .i64 0,.string ⟨#[]⟩] 31)).alloc (.cells #[.int .i64 0,.int .i64 0] 34):=⟨_,rfl⟩
 have hWs : W.heap.size = w.heap.size + 3:=by rw [hW,World.size_alloc,World.size_alloc,World.size_alloc]
 have hbW : Below w.heap.size w W:=by rw [hW];exact bal (bal (bal (Below.refl _ _) _) _) _
 have hs1 : (w.alloc (.cells #[.int .i64 kd,.int .i64 fb,.bool g,.int .i64 bu] 39)).heap.size = w.heap.size + 1:=World.size_alloc _ _
 have hs2 : ((w.alloc (.cells #[.int .i64 kd,.int .i64 fb,.bool g,.int .i64 bu] 39)).alloc (.cells #[.slice none 0 0,.string ⟨#[]⟩,.int .i64 0,.slice none 0 0,.int .i64 0,.string ⟨#[]⟩] 31)).heap.size = w.heap.size + 2:=by rw [World.size_alloc,hs1]
 have W0 : W.heap[w.heap.size]? = some (.cells #[.int .i64 kd,.int .i64 fb,.bool g,.int .i64 bu] 39 (0,0)):=by
  rw [hW];exact (heap_alloc_old _ _ (by rw [hs2];omega)).trans ((heap_alloc_old _ _ (by rw [hs1];omega)).trans (heap_alloc_new _ _))
 have W1 : W.heap[w.heap.size + 1]? = some (.cells #[.slice none 0 0,.string ⟨#[]⟩,.int .i64 0,.slice none 0 0,.int .i64 0,.string ⟨#[]⟩] 31 (0,0)):=by
  rw [hW,← hs1];exact (heap_alloc_old _ _ (by rw [hs2,hs1];omega)).trans (heap_alloc_new _ _)
 have W2 : W.heap[w.heap.size + 1 + 1]? = some (.cells #[.int .i64 0,.int .i64 0] 34 (0,0)):=by
  rw [hW,show w.heap.size + 1 + 1 = w.heap.size + 2 from rfl,← hs2];exact heap_alloc_new _ _
 clear hs1 hs2
 have KR:=Lib.hid kr
 have KW:=Lib.hid kw
 have HRES:=Lib.hid hRES
 have HWS:=Lib.hid hWs
 have HBW:=Lib.hid hbW
 have HW0:=Lib.hid W0
 have HW1:=Lib.hid W1
 have HW2:=Lib.hid W2
 have HT:=Lib.hid hT
 clear kr kw hRES hWs hbW W0 W1 W2 hT
 go_enter Tryz.func9,Tryz.ntmps9
 go_wp2_with fail
 rw [← hW]
 clear hW
 go_wp2_with (first
  | (go_at_call 33;refine (KR.out _).mono ?_;rintro e w1 ⟨r,rfl,hr,hi1,hb1⟩)
  | (go_at_call 34;refine (KW.out _ _ hi1).mono ?_;rintro e w2 ⟨rfl,hi2,hg2⟩))
 have hb2 : Below W.heap.size W w2:=grown_bel hb1 hg2 hr
 have hrl : r < w2.heap.size:=hi2.lt
 have hb3:=bal hb2 (.cells #[.slice none 0 0,.string ⟨#[]⟩,.int .i64 0,.slice none 0 0,.int .i64 (-1),.string ⟨#[]⟩] 31)
 have P0 : FS w r w2.heap.size kd fb bu g fl0 (.slice none 0 0) (.slice none 0 0) (w2.alloc (.cells #[.slice none 0 0,.string ⟨#[]⟩,.int .i64 0,.slice none 0 0,.int .i64 (-1),.string ⟨#[]⟩] 31)):=
  ⟨HBW.out.trans (hb3.mono HBW.out.size),(hb3.block _ (by rw [HWS.out];omega)).trans HW0.out,(hb3.block _ (by rw [HWS.out];omega)).trans HW1.out,(hb3.block _ (by rw [HWS.out];omega)).trans HW2.out,heap_alloc_new _ _,World.ownsRow_nil _ _ _ _,World.ownsRow_nil _ _ _ _,by rw [← HWS.out];exact hr,hrl⟩
 have i0:=hi2.bel (bal (Below.refl w2.heap.size w2) (.cells #[.slice none 0 0,.string ⟨#[]⟩,.int .i64 0,.slice none 0 0,.int .i64 (-1),.string ⟨#[]⟩] 31))
 have hr4 : 4 ≤ r:=Nat.le_trans HT.out.sz (Nat.le_trans HBW.out.size hr)
 have HB2:=Lib.hid hb2
 have HB3:=Lib.hid hb3
 clear hb2 hb3
 go_loopw [8] (fun lv wr=>∃ (lb : Bool) (k : Nat) (y : RS) (f : Fl) (vm vb : Value),lv = .bool lb ∧ FS w r w2.heap.size kd fb bu g f vm vb wr ∧ InX wr r y ∧ okR y ∧ y.s = s ∧ y.b = 0 ∧ Hid (restF (RM fb g) s RES k lb y f)) (fun lv wr=>measF s r lv wr)
 case atStart=>exact ⟨false,s.size + 1,y0,fl0,_,_,rfl,P0,i0,hky,hys,hyb,Lib.hid (by unfold restF;rw [if_neg (by decide)];exact ⟨HRES.out,Nat.le_add_right _ _⟩)⟩
 case round=>
  clear P0 i0 hky hys hyb hi2 hi1 hg2 HRES
  obtain ⟨lb,k,y,f,vm,vb,rfl,P,hi,hky,hys,hyb,hA⟩:=hrel
  obtain ⟨am,cm,rfl⟩:=orow_form P.om
  obtain ⟨an,cn,rfl⟩:=orow_form P.on
  have HYB:=Lib.hid hyb
  have HYS:=Lib.hid hys
  cases lb with
  | true=>
   have hres:=hA.out
   unfold restF at hres
   rw [if_pos rfl] at hres
   have kx:=fun w h=>inx_rest w r y h hky
   generalize takeR y (leftR y) = Z at *
   obtain ⟨z,T⟩:=Z
   simp only at hres kx
   have HRES:=Lib.hid hres
   have KX:=Lib.hid kx
   clear hres kx
   have hne1 : ¬ w2.heap.size = w.heap.size + 1:=by have:=P.hr;have:=P.hH;omega
   have hne2 : ¬ w.heap.size + 1 = w2.heap.size:=by omega
   have hne3 : ¬ w2.heap.size = w.heap.size + 1 + 1:=by have:=P.hr;have:=P.hH;omega
   have hne4 : ¬ w.heap.size + 1 + 1 = w2.heap.size:=by omega
   clear hA hyb hys hky
   go_wp2_with (go_at_call 42;with_reducible refine (KX.out _ hi).mono ?_;rintro e w3 ⟨rfl,hi3,hg3⟩;have P3:=P.gr hg3;obtain ⟨h0,h0',h1,h1',h2,h2',h3,h3',h4,h4',h5,h5'⟩:=P3.fileL;obtain ⟨q0,q0',q1,q1',q2,q2',q3,q3',q4,q4',q5,q5',q6,q6',q7,q7'⟩:=P3.resL)
   refine bodyPost_ret (v:=.tuple #[.agg #[.slice am f.ms.length cm,.string f.b.vt,.int .i64 f.b.vs,.slice an f.b.ns.length cn,.int .i64 f.at_,.string T],.agg #[.int .i64 0,.int .i64 0]]) (by simp [results,Tryz.results9,go_sem,q0,q1,q2,q3,q4,q5,q6,q7,q0',q1',q2',q3',q4',q5',q6',q7']) rfl ?_
   rw [HRES.out]
   have e1:=P3.hr
   have e2:=P3.hH
   have hkeep : ∀ q,w2.heap.size + 1 ≤ q → (((((((((w3.setCell ⟨w2.heap.size,5,none⟩ (.string T)).setCell ⟨w.heap.size + 1,0,none⟩ (.slice am f.ms.length cm)).setCell ⟨w.heap.size + 1,1,none⟩ (.string f.b.vt)).setCell ⟨w.heap.size + 1,2,none⟩ (.int .i64 f.b.vs)).setCell ⟨w.heap.size + 1,3,none⟩ (.slice an f.b.ns.length cn)).setCell ⟨w.heap.size + 1,4,none⟩ (.int .i64 f.at_)).setCell ⟨w.heap.size + 1,5,none⟩ (.string T)).setCell ⟨w.heap.size + 1 + 1,0,none⟩ (.int .i64 0)).setCell ⟨w.heap.size + 1 + 1,1,none⟩ (.int .i64 0)).heap[q]? = w3.heap[q]?:=by
    intro q hq
    iterate 9 rw [Below.heap_setCell _ _ _ q (by simp;omega)]
   refine ⟨((((((((P3.gg.setCell (by simp;omega) _).setCell (by simp) _).setCell (by simp) _).setCell (by simp) _).setCell (by simp) _).setCell (by simp) _).setCell (by simp) _).setCell (by simp <;> omega) _).setCell (by simp <;> omega) _,_,_,rfl,?_,?_⟩
   · exact orow_mono (orow_other P3.om fun q hq=>hkeep q (orow_blk P3.om q hq).1) (by omega)
   · exact orow_mono (orow_other P3.on fun q hq=>hkeep q (orow_blk P3.on q hq).1) (by omega)
  | false=>
   have hA2:=hA.out
   unfold restF at hA2
   rw [if_neg (by decide)] at hA2
   obtain ⟨hA2,hkn⟩:=hA2
   have hyn : y.n ≤ s.size:=by rw [← hys];exact hky.1
   obtain ⟨k',rfl⟩ : ∃ k',k = k' + 1:=⟨k - 1,by omega⟩
   rw [fparL] at hA2
   have kat:=fun w h=>inx_at w r y h hky
   have kb1 : ∀ w,InX w r y → Calls Tryz.prog 36 #[.pointer (some ⟨r,0,none⟩),.int .i64 1] w fun v w'=>v = .returned (.int .u64 ((bigR y 1).2 : Int)) ∧ InX w' r (bigR y 1).1 ∧ w.grownBy w' (some r):=fun w h=>inx_big w r y 1 h hky (by omega)
   have hk1 : okR (bigR y 1).1:=okR_take hky _
   have hh:=bigR_1 y
   have kb3 : ∀ w,InX w r (bigR y 1).1 → Calls Tryz.prog 36 #[.pointer (some ⟨r,0,none⟩),.int .i64 3] w fun v w'=>v = .returned (.int .u64 ((bigR (bigR y 1).1 3).2 : Int)) ∧ InX w' r (bigR (bigR y 1).1 3).1 ∧ w.grownBy w' (some r):=fun w h=>inx_big w r _ 3 h hk1 (by omega)
   have hk2 : okR (bigR (bigR y 1).1 3).1:=okR_take hk1 _
   have hz:=bigR_lt (bigR y 1).1 3 (by omega)
   have kt:=fun w h=>inx_take w r (bigR (bigR y 1).1 3).1 ((bigR (bigR y 1).1 3).2 : Int) h hk2 (by omega) (by omega)
   have hk3 : okR (takeR (bigR (bigR y 1).1 3).1 ((bigR (bigR y 1).1 3).2 : Int)).1:=okR_take hk2 _
   have hH : headR y = ((takeR (bigR (bigR y 1).1 3).1 ((bigR (bigR y 1).1 3).2 : Int)).1,(bigR y 1).2,(takeR (bigR (bigR y 1).1 3).1 ((bigR (bigR y 1).1 3).2 : Int)).2):=rfl
   have hmv:=fun h=>(head_ok (x:=y) h (by rw [hys];exact hyn))
   have hs3 : (takeR (bigR (bigR y 1).1 3).1 ((bigR (bigR y 1).1 3).2 : Int)).1.s = s:=by
    rw [takeR_s];unfold bigR;rw [takeR_s];show (takeR y _).1.s = s;rw [takeR_s];exact hys
   have hb3 : (takeR (bigR (bigR y 1).1 3).1 ((bigR (bigR y 1).1 3).2 : Int)).1.b = 0:=by
    rw [takeR_b];unfold bigR;rw [takeR_b];show (takeR y _).1.b = 0;rw [takeR_b];exact hyb
   rw [hH] at hA2 hmv
   generalize takeR (bigR (bigR y 1).1 3).1 ((bigR (bigR y 1).1 3).2 : Int) = T3 at *
   generalize bigR (bigR y 1).1 3 = B3 at *
   generalize bigR y 1 = B1 at *
   obtain ⟨y3,t⟩:=T3
   obtain ⟨y2,sz⟩:=B3
   obtain ⟨y1,h⟩:=B1
   simp only at hA2 hmv kat kb1 kb3 kt hk1 hk2 hk3 hh hz hs3 hb3
   have kf:=fun w h=>inx_fault w r y3 h
   have kbad:=fun w=>bad_any y3.e y3.a w
   have hwz : IntKind.i64.wrap (sz : Int) = sz:=wi64 _ (by omega) (by omega)
   have hci:=(InC.cells hi).2.1.1
   have hm0:=measF_false s r wr y.n hci
   clear hci hH hA
   by_cases he : y3.e = 0
   · obtain ⟨_,mv2,mv3,_⟩:=hmv he
     have hyn3 : y3.n = y.n + (4 + t.size):=by rw [mv2];rfl
     have hts : t.size ≤ 1048576:=by rw [hys] at mv3;omega
     clear hmv mv2
     have d5 : (!decide (y3.e = 0)) = false:=by simpa using he
     rw [d5] at kbad
     have hmm : ((h % 128 : Nat) : Int) = (h : Int) % 128:=by omega
     have ks:=fun w=>stands_any f.ms.length ⟨h % 128,t⟩ (decide (f.at_ ≥ 0)) w
     simp only [hmm] at ks
     have hwu : IntKind.u8.wrap ((h : Int) % 128) = (h : Int) % 128:=by rw [IntKind.wrap_u8];omega
     have he' : ¬ y3.e ≠ 0:=by simpa using he
     cases hst : standM f.ms.length ⟨h % 128,t⟩ (decide (0 ≤ f.at_)) with
     | false=>
      have hst2 : standM f.ms.length ⟨h % 128,t⟩ (decide (f.at_ ≥ 0)) = false:=hst
      rw [hst2] at ks
      have hadd : addF (RM fb g) f y y3 h t = (noFl,1,(y.b : Int) + y.n):=by unfold addF;rw [if_neg he',hst,if_pos rfl]
      rw [hadd] at hA2
      simp only at hA2
      rw [if_pos (by decide)] at hA2
      clear hadd he'
      have KAT:=Lib.hid kat
      have KB1:=Lib.hid kb1
      have KB3:=Lib.hid kb3
      have KT:=Lib.hid kt
      have KF:=Lib.hid kf
      have KBAD:=Lib.hid kbad
      have KS:=Lib.hid ks
      have HA2:=Lib.hid hA2
      clear kat kb1 kb3 kt kf kbad ks hA2
      clear hst hst2 d5 he hkn hm0 hmm hyn3 hs3 hb3 hyn hts hyb hys hky hk1 hk2 hk3 hh hz
      go_wp2_with (first
       | (go_at_call 35;with_reducible refine (KAT.out _ hi).mono ?_;rintro e w3 ⟨rfl,hb3⟩;have P3:=P.bel hb3;have i3:=hi.bel hb3)
       | (go_at_call 36;with_reducible refine (KB1.out _ i3).mono ?_;rintro e w4 ⟨rfl,i4,hg4⟩;have P4:=P3.gr hg4)
       | (go_at_call 36;with_reducible refine (KB3.out _ i4).mono ?_;rintro e w5 ⟨rfl,i5,hg5⟩;have P5:=P4.gr hg5)
       | (go_at_call 37;with_reducible refine (KT.out _ i5).mono ?_;rintro e w6 ⟨rfl,i6,hg6⟩;have P6:=P5.gr hg6)
       | (go_at_call 38;with_reducible refine (KF.out _ i6).mono ?_;rintro e w7 ⟨rfl,hb7⟩;have P7:=P6.bel hb7;have i7:=i6.bel hb7)
       | (go_at_call 16;refine (KBAD.out _).mono ?_;rintro e w8 ⟨rfl,hb8⟩;have P8:=P7.bel hb8;have i8:=i7.bel hb8;have c8:=P8.file.1.1;have PM:=P8.bel (bal (Below.refl w8.heap.size w8) (.cells #[.int .u8 ((h : Int) % 128),.string t] 102));have iM:=i8.bel (bal (Below.refl w8.heap.size w8) (.cells #[.int .u8 ((h : Int) % 128),.string t] 102));have cM:=PM.file.2.2.2.2.1.1;have f0:=Live.fresh w8 #[.int .u8 ((h : Int) % 128),.string t] 102 0 _ rfl;have f1:=Live.fresh w8 #[.int .u8 ((h : Int) % 128),.string t] 102 1 _ rfl;obtain ⟨g0,g0'⟩:=f0;obtain ⟨g1,g1'⟩:=f1)
       | (go_at_call 39;refine (KS.out _).mono ?_;rintro e wa ⟨rfl,hba⟩;have PA:=PM.bel hba;have iA:=iM.bel hba;have j0:=(Live.fresh w8 #[.int .u8 ((h : Int) % 128),.string t] 102 0 _ rfl).keep hba;have j1:=(Live.fresh w8 #[.int .u8 ((h : Int) % 128),.string t] 102 1 _ rfl).keep hba;obtain ⟨j0,j0'⟩:=j0;obtain ⟨j1,j1'⟩:=j1;obtain ⟨q0,q0',q1,q1',q2,q2',q3,q3',q4,q4',q5,q5',q6,q6',q7,q7'⟩:=PA.resL))
      refine bodyPost_ret (v:=.tuple #[.agg #[.slice none 0 0,.string ⟨#[]⟩,.int .i64 0,.slice none 0 0,.int .i64 0,.string ⟨#[]⟩],.agg #[.int .i64 1,.int .i64 ((y.b : Int) + y.n)]]) (by simp [results,Tryz.results9,go_sem,q0,q1,q2,q3,q4,q5,q6,q7,q0',q1',q2',q3',q4',q5',q6',q7']) rfl ?_
      rw [HA2.out]
      exact fpost_none PA _ _
     | true=>
      have hst2 : standM f.ms.length ⟨h % 128,t⟩ (decide (f.at_ ≥ 0)) = true:=hst
      rw [hst2] at ks
      clear hst2
      by_cases hbig : 4096 ≤ f.ms.length
      · have hadd : addF (RM fb g) f y y3 h t = (noFl,4,(y.b : Int) + y.n):=by unfold addF;rw [if_neg he',hst,if_neg (by decide),if_pos hbig]
        rw [hadd] at hA2
        simp only at hA2
        rw [if_pos (by decide)] at hA2
        clear hadd he' hst
        have hbg : (f.ms.length : Int) ≥ 4096:=by omega
        have KAT:=Lib.hid kat
        have KB1:=Lib.hid kb1
        have KB3:=Lib.hid kb3
        have KT:=Lib.hid kt
        have KF:=Lib.hid kf
        have KBAD:=Lib.hid kbad
        have KS:=Lib.hid ks
        have HA2:=Lib.hid hA2
        clear kat kb1 kb3 kt kf kbad ks hA2
        clear d5 he hkn hm0 hmm hbig hyn3 hs3 hb3 hyn hts hyb hys hky hk1 hk2 hk3 hh hz
        go_wp2_with (first
         | (go_at_call 35;with_reducible refine (KAT.out _ hi).mono ?_;rintro e w3 ⟨rfl,hb3⟩;have P3:=P.bel hb3;have i3:=hi.bel hb3)
         | (go_at_call 36;with_reducible refine (KB1.out _ i3).mono ?_;rintro e w4 ⟨rfl,i4,hg4⟩;have P4:=P3.gr hg4)
         | (go_at_call 36;with_reducible refine (KB3.out _ i4).mono ?_;rintro e w5 ⟨rfl,i5,hg5⟩;have P5:=P4.gr hg5)
         | (go_at_call 37;with_reducible refine (KT.out _ i5).mono ?_;rintro e w6 ⟨rfl,i6,hg6⟩;have P6:=P5.gr hg6)
         | (go_at_call 38;with_reducible refine (KF.out _ i6).mono ?_;rintro e w7 ⟨rfl,hb7⟩;have P7:=P6.bel hb7;have i7:=i6.bel hb7)
         | (go_at_call 16;refine (KBAD.out _).mono ?_;rintro e w8 ⟨rfl,hb8⟩;have P8:=P7.bel hb8;have i8:=i7.bel hb8;have c8:=P8.file.1.1;have PM:=P8.bel (bal (Below.refl w8.heap.size w8) (.cells #[.int .u8 ((h : Int) % 128),.string t] 102));have iM:=i8.bel (bal (Below.refl w8.heap.size w8) (.cells #[.int .u8 ((h : Int) % 128),.string t] 102));have cM:=PM.file.2.2.2.2.1.1;have f0:=Live.fresh w8 #[.int .u8 ((h : Int) % 128),.string t] 102 0 _ rfl;have f1:=Live.fresh w8 #[.int .u8 ((h : Int) % 128),.string t] 102 1 _ rfl;obtain ⟨g0,g0'⟩:=f0;obtain ⟨g1,g1'⟩:=f1)
         | (go_at_call 39;refine (KS.out _).mono ?_;rintro e wa ⟨rfl,hba⟩;have PA:=PM.bel hba;have iA:=iM.bel hba;have j0:=(Live.fresh w8 #[.int .u8 ((h : Int) % 128),.string t] 102 0 _ rfl).keep hba;have j1:=(Live.fresh w8 #[.int .u8 ((h : Int) % 128),.string t] 102 1 _ rfl).keep hba;obtain ⟨j0,j0'⟩:=j0;obtain ⟨j1,j1'⟩:=j1;obtain ⟨q0,q0',q1,q1',q2,q2',q3,q3',q4,q4',q5,q5',q6,q6',q7,q7'⟩:=PA.resL))
        refine bodyPost_ret (v:=.tuple #[.agg #[.slice none 0 0,.string ⟨#[]⟩,.int .i64 0,.slice none 0 0,.int .i64 0,.string ⟨#[]⟩],.agg #[.int .i64 4,.int .i64 ((y.b : Int) + y.n)]]) (by simp [results,Tryz.results9,go_sem,q0,q1,q2,q3,q4,q5,q6,q7,q0',q1',q2',q3',q4',q5',q6',q7']) rfl ?_
        rw [HA2.out]
        exact fpost_none PA _ _
      · have hbg : ¬ (f.ms.length : Int) ≥ 4096:=by omega
        have hz3 : f.ms.length < 70368744177664:=by omega
        have hz5 : (f.ms.length + 1) * 24 ≤ 140737488355328:=by omega
        by_cases h4 : h % 128 = 4
        · have d4 : ((h : Int) % 128 == 4) = true:=by rw [beq_iff_eq];omega
          have hnt : t.size ≤ y3.n:=by omega
          have hny : y3.n ≤ 1048576:=by have:=hk3.1;rw [hs3] at this;omega
          obtain ⟨BB,hBB⟩ : ∃ BB : Nat,BB = y3.b + y3.n - t.size:=⟨_,rfl⟩
          have hws : IntKind.i64.wrap ((y3.b : Int) + y3.n - t.size) = (BB : Int):=by rw [wi64 _ (by omega) (by omega)];omega
          have kat3:=fun w h=>inx_at w r y3 h hk3
          have kin : ∀ w,Calls Tryz.prog 40 #[.string t,.int .i64 (BB : Int)] w fun x w'=>∃ r2,x = .returned (.pointer (some ⟨r2,0,none⟩)) ∧ w.heap.size ≤ r2 ∧ InX w' r2 ⟨t,0,BB,0,0⟩ ∧ Below w.heap.size w w':=
           fun w=>(inner_any t BB w).mono fun e w' ⟨r2,q1,q2,q3,q4⟩=>⟨r2,q1,q2,by rw [show max (BB : Int) 0 = BB by omega] at q3;exact q3,q4⟩
          have hokX : okR ⟨t,0,BB,0,0⟩:=⟨Nat.zero_le _,by simp only;omega,by simp only;omega⟩
          have kpa:=fun wi r2 q1 q2 q3=>cparse_any wi r2 ⟨t,0,BB,0,0⟩ false kd fb bu g q1 q2 q3 hokX hts
          unfold ParsePost at kpa
          cases hp : (parseR (RM fb g) false ⟨t,0,BB,0,0⟩).2 with
          | none=>
           have hpn:=parse_none hp
           rw [hp] at kpa
           have hadd : addF (RM fb g) f y y3 h t = (noFl,(parseR (RM fb g) false ⟨t,0,BB,0,0⟩).1.e,(parseR (RM fb g) false ⟨t,0,BB,0,0⟩).1.a):=by unfold addF;rw [if_neg he',hst,if_neg (by decide),if_neg hbig,if_pos h4,← hBB,hp]
           rw [hadd] at hA2
           simp only at hA2
           rw [if_pos hpn] at hA2
           clear hadd he' hst
           simp only [noneV] at kpa
           generalize (parseR (RM fb g) false ⟨t,0,BB,0,0⟩).1 = yi at *
           have kfi:=fun w r2 h=>inx_fault w r2 yi h
           have KAT:=Lib.hid kat
           have KB1:=Lib.hid kb1
           have KB3:=Lib.hid kb3
           have KT:=Lib.hid kt
           have KF:=Lib.hid kf
           have KBAD:=Lib.hid kbad
           have KS:=Lib.hid ks
           have HA2:=Lib.hid hA2
           have KAT3:=Lib.hid kat3
           have KIN:=Lib.hid kin
           have KPA:=Lib.hid kpa
           have KFI:=Lib.hid kfi
           clear kat kb1 kb3 kt kf kbad ks hA2 kat3 kin kpa kfi
           clear d5 he hkn hm0 hmm hbig h4 hpn hp hokX hBB hnt hny hyn3 hs3 hb3 hyn hts hyb hys hky hk1 hk2 hk3 hh hz hz3 hz5
           go_wp2_with (first
            | (go_at_call 38;with_reducible refine (KFI.out _ _ ie).mono ?_;rintro e we ⟨rfl,hbe⟩;have PF:=PE.bel hbe;obtain ⟨q0,q0',q1,q1',q2,q2',q3,q3',q4,q4',q5,q5',q6,q6',q7,q7'⟩:=PF.resL)
            | (go_at_call 35;with_reducible refine (KAT.out _ hi).mono ?_;rintro e w3 ⟨rfl,hb3⟩;have P3:=P.bel hb3;have i3:=hi.bel hb3)
            | (go_at_call 36;with_reducible refine (KB1.out _ i3).mono ?_;rintro e w4 ⟨rfl,i4,hg4⟩;have P4:=P3.gr hg4)
            | (go_at_call 36;with_reducible refine (KB3.out _ i4).mono ?_;rintro e w5 ⟨rfl,i5,hg5⟩;have P5:=P4.gr hg5)
            | (go_at_call 37;with_reducible refine (KT.out _ i5).mono ?_;rintro e w6 ⟨rfl,i6,hg6⟩;have P6:=P5.gr hg6)
            | (go_at_call 38;with_reducible refine (KF.out _ i6).mono ?_;rintro e w7 ⟨rfl,hb7⟩;have P7:=P6.bel hb7;have i7:=i6.bel hb7)
            | (go_at_call 16;refine (KBAD.out _).mono ?_;rintro e w8 ⟨rfl,hb8⟩;have P8:=P7.bel hb8;have i8:=i7.bel hb8;have c8:=P8.file.1.1;have PM:=P8.bel (bal (Below.refl w8.heap.size w8) (.cells #[.int .u8 ((h : Int) % 128),.string t] 102));have iM:=i8.bel (bal (Below.refl w8.heap.size w8) (.cells #[.int .u8 ((h : Int) % 128),.string t] 102));have cM:=PM.file.2.2.2.2.1.1;have f0:=Live.fresh w8 #[.int .u8 ((h : Int) % 128),.string t] 102 0 _ rfl;have f1:=Live.fresh w8 #[.int .u8 ((h : Int) % 128),.string t] 102 1 _ rfl;obtain ⟨g0,g0'⟩:=f0;obtain ⟨g1,g1'⟩:=f1)
            | (go_at_call 39;refine (KS.out _).mono ?_;rintro e wa ⟨rfl,hba⟩;have PA:=PM.bel hba;have iA:=iM.bel hba;have j0:=(Live.fresh w8 #[.int .u8 ((h : Int) % 128),.string t] 102 0 _ rfl).keep hba;have j1:=(Live.fresh w8 #[.int .u8 ((h : Int) % 128),.string t] 102 1 _ rfl).keep hba;obtain ⟨j0,j0'⟩:=j0;obtain ⟨j1,j1'⟩:=j1)
            | (go_at_call 35;with_reducible refine (KAT3.out _ iA).mono ?_;rintro e wb ⟨rfl,hbb⟩;have PB:=PA.bel hbb)
            | (go_at_call 40;with_reducible refine (KIN.out _).mono ?_;rintro e wc ⟨r2,rfl,hr2,hi2,hbc⟩;have PC:=PB.bel hbc;obtain ⟨o0,o1,o2,o3⟩:=PC.opt)
            | (go_at_call 41;refine (KPA.out _ _ (HT.out.bel PC.gg) (Nat.le_trans (HT.out.bel PB.gg).sz hr2) hi2).mono ?_;rintro e wd ⟨hid,hgd,rfl⟩;have hbd : Below wb.heap.size wb wd:=grown_bel hbc hgd hr2;have PE:=(PB.bel hbd).bel (bal (Below.refl wd.heap.size wd) (.cells #[.string ⟨#[]⟩,.int .i64 0,.slice none 0 0] 29));have ie:=InX.bel hid (bal (Below.refl wd.heap.size wd) (.cells #[.string ⟨#[]⟩,.int .i64 0,.slice none 0 0] 29))))
           refine bodyPost_ret (v:=.tuple #[.agg #[.slice none 0 0,.string ⟨#[]⟩,.int .i64 0,.slice none 0 0,.int .i64 0,.string ⟨#[]⟩],.agg #[.int .i64 yi.e,.int .i64 yi.a]]) (by simp [results,Tryz.results9,go_sem,q0,q1,q2,q3,q4,q5,q6,q7,q0',q1',q2',q3',q4',q5',q6',q7']) rfl ?_
           rw [HA2.out]
           exact fpost_none PF _ _
          | some b=>
           rw [hp] at kpa
           have hadd : addF (RM fb g) f y y3 h t = (⟨f.ms ++ [⟨4,⟨#[]⟩⟩],b,f.ms.length,f.sound⟩,0,0):=by unfold addF;rw [if_neg he',hst,if_neg (by decide),if_neg hbig,if_pos h4,← hBB,hp]
           rw [hadd] at hA2
           simp only [ne_eq,not_true,if_false] at hA2
           clear hadd he' hst
           simp only at kpa
           have KAT:=Lib.hid kat
           have KB1:=Lib.hid kb1
           have KB3:=Lib.hid kb3
           have KT:=Lib.hid kt
           have KF:=Lib.hid kf
           have KBAD:=Lib.hid kbad
           have KS:=Lib.hid ks
           have HA2:=Lib.hid hA2
           have KAT3:=Lib.hid kat3
           have KIN:=Lib.hid kin
           have KPA:=Lib.hid kpa
           have HZ3:=Lib.hid hz3
           have HZ5:=Lib.hid hz5
           have HMM:=Lib.hid hmm
           have HM0:=Lib.hid hm0
           clear kat kb1 kb3 kt kf kbad ks hA2 kat3 kin kpa hz3 hz5 hmm hm0
           have H4:=Lib.hid h4
           have HYN3:=Lib.hid hyn3
           have HS3:=Lib.hid hs3
           have HB3:=Lib.hid hb3
           have HKN:=Lib.hid hkn
           have HYN:=Lib.hid hyn
           have HK3:=Lib.hid hk3
           clear hyn3 hs3 hb3 hkn hyn hk3
           clear d5 he hbig hp hokX hBB hnt hny hts hyb hys hky hk1 hk2 hh hz h4
           go_wp2_with (first
            | (go_at_call 35;with_reducible refine (KAT.out _ hi).mono ?_;rintro e w3 ⟨rfl,hb3⟩;have P3:=P.bel hb3;have i3:=hi.bel hb3)
            | (go_at_call 36;with_reducible refine (KB1.out _ i3).mono ?_;rintro e w4 ⟨rfl,i4,hg4⟩;have P4:=P3.gr hg4)
            | (go_at_call 36;with_reducible refine (KB3.out _ i4).mono ?_;rintro e w5 ⟨rfl,i5,hg5⟩;have P5:=P4.gr hg5)
            | (go_at_call 37;with_reducible refine (KT.out _ i5).mono ?_;rintro e w6 ⟨rfl,i6,hg6⟩;have P6:=P5.gr hg6)
            | (go_at_call 38;with_reducible refine (KF.out _ i6).mono ?_;rintro e w7 ⟨rfl,hb7⟩;have P7:=P6.bel hb7;have i7:=i6.bel hb7)
            | (go_at_call 16;refine (KBAD.out _).mono ?_;rintro e w8 ⟨rfl,hb8⟩;have P8:=P7.bel hb8;have i8:=i7.bel hb8;have c8:=P8.file.1.1;have PM:=P8.bel (bal (Below.refl w8.heap.size w8) (.cells #[.int .u8 ((h : Int) % 128),.string t] 102));have iM:=i8.bel (bal (Below.refl w8.heap.size w8) (.cells #[.int .u8 ((h : Int) % 128),.string t] 102));have cM:=PM.file.2.2.2.2.1.1;have f0:=Live.fresh w8 #[.int .u8 ((h : Int) % 128),.string t] 102 0 _ rfl;have f1:=Live.fresh w8 #[.int .u8 ((h : Int) % 128),.string t] 102 1 _ rfl;obtain ⟨g0,g0'⟩:=f0;obtain ⟨g1,g1'⟩:=f1)
            | (go_at_call 39;refine (KS.out _).mono ?_;rintro e wa ⟨rfl,hba⟩;have PA:=PM.bel hba;have iA:=iM.bel hba;have j0:=(Live.fresh w8 #[.int .u8 ((h : Int) % 128),.string t] 102 0 _ rfl).keep hba;have j1:=(Live.fresh w8 #[.int .u8 ((h : Int) % 128),.string t] 102 1 _ rfl).keep hba;obtain ⟨j0,j0'⟩:=j0;obtain ⟨j1,j1'⟩:=j1)
            | (go_at_call 35;with_reducible refine (KAT3.out _ iA).mono ?_;rintro e wb ⟨rfl,hbb⟩;have PB:=PA.bel hbb)
            | (go_at_call 40;with_reducible refine (KIN.out _).mono ?_;rintro e wc ⟨r2,rfl,hr2,hi2,hbc⟩;have PC:=PB.bel hbc;obtain ⟨o0,o1,o2,o3⟩:=PC.opt)
            | (go_at_call 41;refine (KPA.out _ _ (HT.out.bel PC.gg) (Nat.le_trans (HT.out.bel PB.gg).sz hr2) hi2).mono ?_;rintro e wd ⟨hid,hgd,vn,rfl,hon⟩;obtain ⟨an2,cn2,rfl⟩:=orow_form hon;have hbd : Below wb.heap.size wb wd:=grown_bel hbc hgd hr2;have PD:=PB.bel hbd;have hbn:=bal (Below.refl wd.heap.size wd) (.cells #[.string b.vt,.int .i64 b.vs,.slice an2 b.ns.length cn2] 29);have PE:=PD.bel hbn;have hMb : Below (w8.alloc (.cells #[.int .u8 ((h : Int) % 128),.string t] 102)).heap.size (w8.alloc (.cells #[.int .u8 ((h : Int) % 128),.string t] 102)) (wd.alloc (.cells #[.string b.vt,.int .i64 b.vs,.slice an2 b.ns.length cn2] 29)):=bt hba (bt hbb (bt hbd hbn));obtain ⟨h0,h0',h1,h1',h2,h2',h3,h3',h4,h4',h5,h5'⟩:=PE.fileL;have jj:=(Live.fresh w8 #[.int .u8 ((h : Int) % 128),.string t] 102 0 _ rfl).keep hMb;have jk:=(Live.fresh w8 #[.int .u8 ((h : Int) % 128),.string t] 102 1 _ rfl).keep hMb;obtain ⟨jj0,jj0'⟩:=jj;obtain ⟨jk0,jk0'⟩:=jk;have hne5 : ¬ w8.heap.size = w2.heap.size:=(by have:=P8.sz;omega);have hne6 : ¬ w2.heap.size = w8.heap.size:=(by have:=P8.sz;omega);obtain ⟨n0,n0'⟩:=Live.fresh wd #[.string b.vt,.int .i64 b.vs,.slice an2 b.ns.length cn2] 29 0 _ rfl;obtain ⟨n1,n1'⟩:=Live.fresh wd #[.string b.vt,.int .i64 b.vs,.slice an2 b.ns.length cn2] 29 1 _ rfl;obtain ⟨n2,n2'⟩:=Live.fresh wd #[.string b.vt,.int .i64 b.vs,.slice an2 b.ns.length cn2] 29 2 _ rfl;have PN:=(PE.note b _ (f.ms.length : Int) (orow_mono (orow_bel hon hbn) (by have:=PC.sz;omega))).other w8.heap.size 1 (.string ⟨#[]⟩) (by have:=P8.sz;omega) (fun e=>by have:=(orow_blk P8.om _ e.symm).2;omega) (fun e=>orow_tag hon ((hbd.block w8.heap.size (by have:=hbb.size;have:=hba.size;simp at this;omega)).trans ((hbb.block w8.heap.size (by have:=hba.size;simp at this;omega)).trans ((hba.block w8.heap.size (by simp)).trans (heap_alloc_new _ _)))) (by decide) e.symm))
            | (at_builtin;go_loud (refine wpList_push1 rfl _ _ 23 102 rfl Tryz.underlying23 (.agg #[.int .u8 0,.string ⟨#[]⟩]) 2 24 infoMeta rfl (by decide) ((((((wd.alloc (.cells #[.string b.vt,.int .i64 b.vs,.slice an2 b.ns.length cn2] 29)).setCell ⟨w2.heap.size,1,none⟩ (.string b.vt)).setCell ⟨w2.heap.size,2,none⟩ (.int .i64 b.vs)).setCell ⟨w2.heap.size,3,none⟩ (.slice an2 b.ns.length cn2)).setCell ⟨w2.heap.size,4,none⟩ (.int .i64 (f.ms.length : Int))).setCell ⟨w8.heap.size,1,none⟩ (.string ⟨#[]⟩)) (w2.heap.size + 1) (.slice am f.ms.length cm) f.ms.length (mtcells f.ms) rfl PN.om #[.int .u8 ((h : Int) % 128),.string ⟨#[]⟩] rfl (by simp [Value.oneCell']) (by show Value.slice (some ⟨wd.heap.size + 1,0,none⟩) 1 1 = Value.slice (some ⟨((((((wd.alloc (.cells #[.string b.vt,.int .i64 b.vs,.slice an2 b.ns.length cn2] 29)).setCell ⟨w2.heap.size,1,none⟩ (.string b.vt)).setCell ⟨w2.heap.size,2,none⟩ (.int .i64 b.vs)).setCell ⟨w2.heap.size,3,none⟩ (.slice an2 b.ns.length cn2)).setCell ⟨w2.heap.size,4,none⟩ (.int .i64 (f.ms.length : Int))).setCell ⟨w8.heap.size,1,none⟩ (.string ⟨#[]⟩)).heap.size,0,none⟩) 1 1;rw [World.size_setCell,World.size_setCell,World.size_setCell,World.size_setCell,World.size_setCell,World.size_alloc]) HZ3.out HZ5.out PN.sz ?_;intro v' wf hownd hbf hkf;obtain ⟨av,cv,rfl⟩:=orow_form hownd;obtain ⟨z0,z0'⟩:=live_of ((hbf.block w2.heap.size (by omega)).trans PN.fb) 0 _ rfl)))
           have h4i : (h : Int) % 128 = ((4 : Nat) : Int):=by have:=H4.out;omega
           rw [h4i] at hownd
           have PE2:=PN.push ⟨4,⟨#[]⟩⟩ _ hownd hbf hkf
           have iN : InX (wd.alloc (.cells #[.string b.vt,.int .i64 b.vs,.slice an2 b.ns.length cn2] 29)) r y3:=(iA.bel (bt hbb (bt hbd hbn)))
           have iE:=InX.gr (InC.blk (InX.gr iN (gr_trans (gr_trans (gr_trans (gr_trans (gr_set _ w2.heap.size 1 (.string b.vt)) (gr_set _ w2.heap.size 2 (.int .i64 b.vs))) (gr_set _ w2.heap.size 3 (.slice an2 b.ns.length cn2))) (gr_set _ w2.heap.size 4 (.int .i64 (f.ms.length : Int)))) (gr_refl _ _)) (by have:=PA.hH;simp;omega)) rfl) (gr_set _ w8.heap.size 1 (.string ⟨#[]⟩)) (by have:=PA.hH;have:=P8.sz;simp;omega)
           have iE2:=InX.gr (InC.blk iE (hbf.block r (by have:=PA.hH;omega))) (gr_set _ w2.heap.size 0 (.slice av (f.ms.length + 1) cv)) (by have:=PA.hH;simp;omega)
           have hmE:=measF_false s r _ y3.n (InC.cells iE2).2.1.1
           go_roundw
           case rel=>exact ⟨decide ((h : Int) ≥ 128),k',y3,_,_,_,rfl,PE2,iE2,HK3.out,HS3.out,HB3.out,Lib.hid (restF_step HA2.out HYN3.out HKN.out)⟩
           case measure=>exact measF_step HM0.out hmE HYN.out HYN3.out
        · have hadd : addF (RM fb g) f y y3 h t = (⟨f.ms ++ [⟨h % 128,t⟩],f.b,f.at_,f.sound⟩,0,0):=by unfold addF;rw [if_neg he',hst,if_neg (by decide),if_neg hbig,if_neg h4]
          rw [hadd] at hA2
          simp only [ne_eq,not_true,if_false] at hA2
          clear hadd he' hst
          have d4 : ((h : Int) % 128 == 4) = false:=by rw [beq_eq_false_iff_ne];omega
          have KAT:=Lib.hid kat
          have KB1:=Lib.hid kb1
          have KB3:=Lib.hid kb3
          have KT:=Lib.hid kt
          have KF:=Lib.hid kf
          have KBAD:=Lib.hid kbad
          have KS:=Lib.hid ks
          have HA2:=Lib.hid hA2
          have HZ3:=Lib.hid hz3
          have HZ5:=Lib.hid hz5
          have HMM:=Lib.hid hmm
          have HM0:=Lib.hid hm0
          clear kat kb1 kb3 kt kf kbad ks hA2 hz3 hz5 hmm hm0
          have HYN3:=Lib.hid hyn3
          have HS3:=Lib.hid hs3
          have HB3:=Lib.hid hb3
          have HKN:=Lib.hid hkn
          have HYN:=Lib.hid hyn
          have HK3:=Lib.hid hk3
          clear hyn3 hs3 hb3 hkn hyn hk3
          clear d5 he h4 hbig hts hyb hys hky hk1 hk2 hh hz
          go_wp2_with (first
           | (go_at_call 35;with_reducible refine (KAT.out _ hi).mono ?_;rintro e w3 ⟨rfl,hb3⟩;have P3:=P.bel hb3;have i3:=hi.bel hb3)
           | (go_at_call 36;with_reducible refine (KB1.out _ i3).mono ?_;rintro e w4 ⟨rfl,i4,hg4⟩;have P4:=P3.gr hg4)
           | (go_at_call 36;with_reducible refine (KB3.out _ i4).mono ?_;rintro e w5 ⟨rfl,i5,hg5⟩;have P5:=P4.gr hg5)
           | (go_at_call 37;with_reducible refine (KT.out _ i5).mono ?_;rintro e w6 ⟨rfl,i6,hg6⟩;have P6:=P5.gr hg6)
           | (go_at_call 38;with_reducible refine (KF.out _ i6).mono ?_;rintro e w7 ⟨rfl,hb7⟩;have P7:=P6.bel hb7;have i7:=i6.bel hb7)
           | (go_at_call 16;refine (KBAD.out _).mono ?_;rintro e w8 ⟨rfl,hb8⟩;have P8:=P7.bel hb8;have i8:=i7.bel hb8;have c8:=P8.file.1.1;have PM:=P8.bel (bal (Below.refl w8.heap.size w8) (.cells #[.int .u8 ((h : Int) % 128),.string t] 102));have iM:=i8.bel (bal (Below.refl w8.heap.size w8) (.cells #[.int .u8 ((h : Int) % 128),.string t] 102));have cM:=PM.file.2.2.2.2.1.1;have f0:=Live.fresh w8 #[.int .u8 ((h : Int) % 128),.string t] 102 0 _ rfl;have f1:=Live.fresh w8 #[.int .u8 ((h : Int) % 128),.string t] 102 1 _ rfl;obtain ⟨g0,g0'⟩:=f0;obtain ⟨g1,g1'⟩:=f1)
           | (go_at_call 39;refine (KS.out _).mono ?_;rintro e wa ⟨rfl,hba⟩;have PA:=PM.bel hba;have iA:=iM.bel hba;have j0:=(Live.fresh w8 #[.int .u8 ((h : Int) % 128),.string t] 102 0 _ rfl).keep hba;have j1:=(Live.fresh w8 #[.int .u8 ((h : Int) % 128),.string t] 102 1 _ rfl).keep hba;obtain ⟨j0,j0'⟩:=j0;obtain ⟨j1,j1'⟩:=j1;have cA:=PA.file.1.1)
           | (at_builtin;go_loud (refine wpList_push1 rfl _ _ 23 102 rfl Tryz.underlying23 (.agg #[.int .u8 0,.string ⟨#[]⟩]) 2 24 infoMeta rfl (by decide) wa (w2.heap.size + 1) (.slice am f.ms.length cm) f.ms.length (mtcells f.ms) rfl PA.om #[.int .u8 ((h : Int) % 128),.string t] rfl (by simp [Value.oneCell']) rfl HZ3.out HZ5.out PA.sz ?_;intro v' wd hownd hbd hkd;obtain ⟨av,cv,rfl⟩:=orow_form hownd;obtain ⟨z0,z0'⟩:=live_of ((hbd.block w2.heap.size (by omega)).trans PA.fb) 0 _ rfl)))
          have hownd' : wd.ownsRow (w2.heap.size + 1) 102 2 (.slice av (f.ms.length + 1) cv) (f.ms.length + 1) (mtcells f.ms ++ (#[.int .u8 ((h % 128 : Nat) : Int),.string t] : Array Value).toList):=by rw [HMM.out];exact hownd
          have PE:=PA.push ⟨h % 128,t⟩ _ hownd' hbd hkd
          have iE : InX (wd.setCell ⟨w2.heap.size,0,none⟩ (.slice av (f.ms.length + 1) cv)) r y3:=InX.gr (InC.blk iA (hbd.block r (by have:=PA.hH;omega))) (gr_set _ _ _ _) (by have:=PA.hH;simp;omega)
          have hmE:=measF_false s r _ y3.n (InC.cells iE).2.1.1
          go_roundw
          case rel=>exact ⟨decide ((h : Int) ≥ 128),k',y3,_,_,_,rfl,PE,iE,HK3.out,HS3.out,HB3.out,Lib.hid (restF_step HA2.out HYN3.out HKN.out)⟩
          case measure=>exact measF_step HM0.out hmE HYN.out HYN3.out
   · have hadd : addF (RM fb g) f y y3 h t = (noFl,y3.e,y3.a):=by unfold addF;rw [if_pos he]
     rw [hadd] at hA2
     simp only at hA2
     rw [if_pos he] at hA2
     have d5 : (!decide (y3.e = 0)) = true:=by simpa using he
     rw [d5] at kbad
     have KAT:=Lib.hid kat
     have KB1:=Lib.hid kb1
     have KB3:=Lib.hid kb3
     have KT:=Lib.hid kt
     have KF:=Lib.hid kf
     have KBAD:=Lib.hid kbad
     have HA2:=Lib.hid hA2
     clear kat kb1 kb3 kt kf kbad hA2
     clear hadd d5 he hmv hkn hm0 hs3 hb3 hyn hyb hys hky hk1 hk2 hk3 hh hz
     go_wp2_with (first
      | (go_at_call 38;with_reducible refine (KF.out _ i8).mono ?_;rintro e w9 ⟨rfl,hb9⟩;have P9:=P8.bel hb9;obtain ⟨q0,q0',q1,q1',q2,q2',q3,q3',q4,q4',q5,q5',q6,q6',q7,q7'⟩:=P9.resL)
      | (go_at_call 35;with_reducible refine (KAT.out _ hi).mono ?_;rintro e w3 ⟨rfl,hb3⟩;have P3:=P.bel hb3;have i3:=hi.bel hb3)
      | (go_at_call 36;with_reducible refine (KB1.out _ i3).mono ?_;rintro e w4 ⟨rfl,i4,hg4⟩;have P4:=P3.gr hg4)
      | (go_at_call 36;with_reducible refine (KB3.out _ i4).mono ?_;rintro e w5 ⟨rfl,i5,hg5⟩;have P5:=P4.gr hg5)
      | (go_at_call 37;with_reducible refine (KT.out _ i5).mono ?_;rintro e w6 ⟨rfl,i6,hg6⟩;have P6:=P5.gr hg6)
      | (go_at_call 38;with_reducible refine (KF.out _ i6).mono ?_;rintro e w7 ⟨rfl,hb7⟩;have P7:=P6.bel hb7;have i7:=i6.bel hb7)
      | (go_at_call 16;refine (KBAD.out _).mono ?_;rintro e w8 ⟨rfl,hb8⟩;have P8:=P7.bel hb8;have i8:=i7.bel hb8))
     refine bodyPost_ret (v:=.tuple #[.agg #[.slice none 0 0,.string ⟨#[]⟩,.int .i64 0,.slice none 0 0,.int .i64 0,.string ⟨#[]⟩],.agg #[.int .i64 y3.e,.int .i64 y3.a]]) (by simp [results,Tryz.results9,go_sem,q0,q1,q2,q3,q4,q5,q6,q7,q0',q1',q2',q3',q4',q5',q6',q7']) rfl ?_
     rw [HA2.out]
     exact fpost_none P9 _ _
def exS : ByteArray:=⟨#[102,76,97,67,128,0,0,34,48,49,50,51,52,53,54,55,56,57,48,49,50,51,52,53,54,55,56,57,48,49,50,51,52,53,54,55,56,57,48,49,50,51,120]⟩
def exF : Fl:=⟨[⟨0,⟨#[48,49,50,51,52,53,54,55,56,57,48,49,50,51,52,53,54,55,56,57,48,49,50,51,52,53,54,55,56,57,48,49,50,51]⟩⟩],noBk,-1,⟨#[120]⟩⟩
theorem ex_check : fcheckM exF = (0,0):=by decide +kernel
theorem ex_print : fprintL exF = bl exS:=by decide +kernel
theorem ex_parse : fparM (RM 0 false) exS = (exF,0,0):=by
 have h:=fparse_back (R:=RM 0 false) (RM_utf 0 false) exF ex_check (by decide +kernel) (by intro m hm;simp [exF] at hm;subst hm;decide)
 have e : (⟨(fprintL exF).toArray⟩ : ByteArray) = exS:=by rw [ex_print]
 rw [e] at h
 rw [h]
 rfl
set_option maxRecDepth 100000 in
theorem awake21_any (w : World) (hT : TW w) : Calls Tryz.prog 32 #[] w fun e w'=>e = .returned (.bool true) ∧ Below w.heap.size w w':=by
 have k1 : Calls Tryz.prog 9 #[.string exS,.agg #[.int .i64 0,.int .i64 0,.bool false,.int .i64 0]] w fun e w'=>Below w.heap.size w w' ∧ ∃ (am : Option Addr) (cm : Nat) (an : Option Addr) (cn : Nat),e = .returned (.tuple #[.agg #[.slice am 1 cm,.string ⟨#[]⟩,.int .i64 0,.slice an 0 cn,.int .i64 (-1),.string ⟨#[120]⟩],.agg #[.int .i64 0,.int .i64 0]]) ∧
  FlRow w' (.slice am 1 cm) (.slice an 0 cn) exF:=by
  refine (fparse_any exS 0 0 0 false w hT (by decide)).mono ?_
  rintro e w' ⟨h1,vm,vb,h2,h3,h4⟩
  rw [ex_parse] at h2 h3 h4
  obtain ⟨am,cm,rfl⟩:=orow_form h3
  obtain ⟨an,cn,rfl⟩:=orow_form h4
  exact ⟨h1,am,cm,an,cn,h2,row_owns h3,row_owns h4⟩
 have k3 : ∀ w' am cm an cn,TW w' → FlRow w' (.slice am 1 cm) (.slice an 0 cn) exF → Calls Tryz.prog 84 #[.agg #[.slice am 1 cm,.string ⟨#[]⟩,.int .i64 0,.slice an 0 cn,.int .i64 (-1),.string ⟨#[120]⟩]] w' fun e w''=>e = .returned (.tuple #[.string exS,.agg #[.int .i64 0,.int .i64 0]]) ∧ Below w'.heap.size w' w'':=by
  intro w' am cm an cn hT' hrow
  have h:=fprint_any (.slice am 1 cm) (.slice an 0 cn) exF w' hT' hrow ⟨⟨by decide,by decide,fun n hn=>by cases hn⟩,by decide,by intro m hm;simp [exF] at hm;subst hm;decide,by decide,by decide⟩ (by decide +kernel) (by intro m hm;simp [exF] at hm;subst hm;decide) (by rw [ex_print];decide)
  unfold FPrintPost at h
  rw [ex_check,ex_print] at h
  exact h
 have k5:=fun w hT=>awake19_any w hT
 have k6:=fun w=>bad_any 0 0 w
 have hB:=Below.refl w.heap.size w
 have HS : (⟨#[102,76,97,67,128,0,0,34,48,49,50,51,52,53,54,55,56,57,48,49,50,51,52,53,54,55,56,57,48,49,50,51,52,53,54,55,56,57,48,49,50,51,120]⟩ : ByteArray) = exS:=rfl
 have HE : (exS.toList == exS.toList) = true:=by simp
 have K1:=Lib.hid k1
 have K3:=Lib.hid k3
 have K5:=Lib.hid k5
 have K6:=Lib.hid k6
 have HT:=Lib.hid hT
 clear k1 k3 k5 k6 hT
 go_enter Tryz.func32,Tryz.ntmps32
 rw [HS]
 generalize exS = S at *
 generalize hF : exF = F at *
 clear HS hF
 go_wp2_with (first
  | (go_at_call 9;refine (K1.out).mono ?_;rintro e w1 ⟨hb1,am,cm,an,cn,rfl,hrow⟩;have hba:=bal (bal (Below.refl w1.heap.size w1) (.cells #[.slice am 1 cm,.string ⟨#[]⟩,.int .i64 0,.slice an 0 cn,.int .i64 (-1),.string ⟨#[120]⟩] 31)) (.cells #[.int .i64 0,.int .i64 0] 34);have hb2:=bt hb1 hba;have hrow2 : FlRow _ _ _ _:=⟨hrow.1.keep hba,hrow.2.keep hba⟩)
  | (go_at_call 84;refine (K3.out _ _ _ _ _ (HT.out.bel hb2) hrow2).mono ?_;rintro e w3 ⟨rfl,hb3⟩;have hb4:=bal hb3 (.cells #[.int .i64 0,.int .i64 0] 34))
  | (go_at_call 85;refine (K5.out _ (HT.out.bel (bt hb2 hb4))).mono ?_;rintro e w5 ⟨rfl,hb5⟩;have hb6:=bt hb4 hb5;have hb8:=bt hb2 hb6;have L0:=((Live.fresh w1 #[.slice am 1 cm,.string ⟨#[]⟩,.int .i64 0,.slice an 0 cn,.int .i64 (-1),.string ⟨#[120]⟩] 31 0 _ rfl).alloc (.cells #[.int .i64 0,.int .i64 0] 34)).keep hb6;have L4:=((Live.fresh w1 #[.slice am 1 cm,.string ⟨#[]⟩,.int .i64 0,.slice an 0 cn,.int .i64 (-1),.string ⟨#[120]⟩] 31 4 _ rfl).alloc (.cells #[.int .i64 0,.int .i64 0] 34)).keep hb6;have L5:=((Live.fresh w1 #[.slice am 1 cm,.string ⟨#[]⟩,.int .i64 0,.slice an 0 cn,.int .i64 (-1),.string ⟨#[120]⟩] 31 5 _ rfl).alloc (.cells #[.int .i64 0,.int .i64 0] 34)).keep hb6;obtain ⟨l0,_⟩:=L0;obtain ⟨l4,_⟩:=L4;obtain ⟨l5,_⟩:=L5;obtain ⟨g0,_⟩:=(Live.fresh (w1.alloc (.cells #[.slice am 1 cm,.string ⟨#[]⟩,.int .i64 0,.slice an 0 cn,.int .i64 (-1),.string ⟨#[120]⟩] 31)) #[.int .i64 0,.int .i64 0] 34 0 _ rfl).keep hb6;obtain ⟨g1,_⟩:=(Live.fresh (w1.alloc (.cells #[.slice am 1 cm,.string ⟨#[]⟩,.int .i64 0,.slice an 0 cn,.int .i64 (-1),.string ⟨#[120]⟩] 31)) #[.int .i64 0,.int .i64 0] 34 1 _ rfl).keep hb6;rw [World.size_alloc] at g0 g1;obtain ⟨p0,_⟩:=(Live.fresh w3 #[.int .i64 0,.int .i64 0] 34 0 _ rfl).keep hb5;obtain ⟨p1,_⟩:=(Live.fresh w3 #[.int .i64 0,.int .i64 0] 34 1 _ rfl).keep hb5)
  | (go_at_call 16;refine (K6.out _).mono ?_;rintro e w7 ⟨rfl,hb7⟩;have p0:=kc hb7 p0;have p1:=kc hb7 p1;have l0:=kc hb7 l0;have l4:=kc hb7 l4;have l5:=kc hb7 l5;have hb8:=bt hb8 hb7))
 go_ret
 exact ⟨ret_b (by simp),hb8⟩
theorem awake21in_any (w : World) (hT : TW w) : Calls Tryz.prog 8 #[] w fun e w'=>e = .returned (.bool true) ∧ Below w.heap.size w w':=by
 have KA:=Lib.hid awake21_any
 go_enter Tryz.func8,Tryz.ntmps8
 go_wp2_with (go_at_call 32;refine (KA.out _ hT).mono ?_;rintro e w1 ⟨rfl,hb1⟩)
 go_ret
 exact ⟨rfl,hb1⟩
theorem infoRN : (Tryz.prog.info? 42).map (fun i=>(i.zero,i.size,i.bytes)) = some (some (.agg #[.string ⟨#[]⟩,.string ⟨#[]⟩,.int .i64 0]),3,40):=by kernel_rfl
theorem ntcells_snoc' (l : List Nt) (n : Nt) : ntcells (l ++ [n]) = ntcells l ++ (#[.string n.name,.string n.text,.int .i64 n.set] : Array Value).toList:=by rw [ntcells_append];rfl
set_option maxRecDepth 100000 in
theorem lof_any (v : Value) (b : Bk) (w : World) (hrow : Row w v b.ns.length (ntcells b.ns)) (hok : smBk b) (hnl : b.ns.length ≤ 1000000) :
 Calls Tryz.prog 50 #[.agg #[.string b.vt,.int .i64 b.vs,v]] w fun e w'=>∃ v',e = .returned (.agg #[.string ⟨#[]⟩,.string b.vt,.int .i64 b.vs,v']) ∧ w'.ownsRow w.heap.size 42 3 v' b.ns.length (ntcells b.ns) ∧ Below w.heap.size w w':=by
 obtain ⟨vt,vs,ns⟩:=b
 obtain ⟨av,cap,rfl,hc⟩:=hrow
 obtain ⟨o1,o2,o3⟩:=hok
 simp only at o1 o2 o3 hc hnl ⊢
 obtain ⟨n,hn⟩ : ∃ n,n = ns.length:=⟨_,rfl⟩
 rw [← hn] at o2 hnl ⊢
 obtain ⟨W,hW⟩ : ∃ W,W = (w.alloc (.cells #[.string vt,.int .i64 vs,.slice av n cap] 29)).alloc (.cells #[.string ⟨#[]⟩,.string ⟨#[]⟩,.int .i64 0,.slice none 0 0] 45):=⟨_,rfl⟩
 have hs1 : (w.alloc (.cells #[.string vt,.int .i64 vs,.slice av n cap] 29)).heap.size = w.heap.size + 1:=World.size_alloc _ _
 have hWs : W.heap.size = w.heap.size + 1 + 1:=by rw [hW,World.size_alloc,World.size_alloc]
 have hbW : Below w.heap.size w W:=by rw [hW];exact bal (bal (Below.refl _ _) _) _
 have lc : ∀ (i : Nat) (u : Value),(#[.string vt,.int .i64 vs,.slice av n cap] : Array Value)[i]? = some u → W.cell? ⟨w.heap.size,i,none⟩ = some u:=by
  intro i u hu;rw [hW];exact ((Live.fresh w _ 29 i u hu).alloc _).1
 have hres : W.heap[w.heap.size + 1]? = some (.cells #[.string ⟨#[]⟩,.string ⟨#[]⟩,.int .i64 0,.slice none 0 0] 45 (0,0)):=by
  rw [hW,← hs1];exact heap_alloc_new _ _
 have c0:=lc 0 _ rfl
 have c1:=lc 1 _ rfl
 have c2:=lc 2 _ rfl
 clear lc hs1
 have HC:=Lib.hid hc
 have HN:=Lib.hid hn
 have O3:=Lib.hid o3
 have HBW:=Lib.hid hbW
 have HRES:=Lib.hid hres
 have HWS:=Lib.hid hWs
 clear hc hn o3 hbW hres hWs
 go_enter Tryz.func50,Tryz.ntmps50
 go_wp2_with fail
 rw [← hW]
 clear hW
 go_wp2_with fail
 have hM : (W.alloc (.cells #[.string ⟨#[]⟩,.string vt,.int .i64 vs,.slice none 0 0] 45)).heap[w.heap.size + 1 + 1]? = some (.cells #[.string ⟨#[]⟩,.string vt,.int .i64 vs,.slice none 0 0] 45 (0,0)):=by rw [← HWS.out];exact heap_alloc_new _ _
 go_loopw [17] (fun iv wr=>∃ (k : Nat) (v' : Value),iv = .int .i64 (k : Int) ∧ k ≤ n ∧ wr.heap[w.heap.size + 1 + 1]? = some (.cells #[.string ⟨#[]⟩,.string vt,.int .i64 vs,v'] 45 (0,0)) ∧ wr.ownsRow (W.heap.size + 1) 42 3 v' k (ntcells (ns.take k)) ∧ Below W.heap.size W wr) (fun iv _=>n - (intOf iv).toNat)
 case atStart=>exact ⟨0,.slice none 0 0,rfl,Nat.zero_le _,hM,World.ownsRow_nil _ _ _ _,bal (Below.refl _ _) _⟩
 case round=>
  obtain ⟨k,v',rfl,hk,hMb,hown,hbel⟩:=hrel
  clear hM c2
  obtain ⟨av',cv',rfl⟩:=orow_form hown
  obtain ⟨p0,p0'⟩:=live_of hMb 0 _ rfl
  obtain ⟨p1,p1'⟩:=live_of hMb 1 _ rfl
  obtain ⟨p2,p2'⟩:=live_of hMb 2 _ rfl
  obtain ⟨p3,p3'⟩:=live_of hMb 3 _ rfl
  have hML:=(Array.getElem?_eq_some_iff.1 hMb).1
  by_cases hlt : k < n
  · obtain ⟨x,hx⟩:=at_some ns k (by rw [← HN.out];exact hlt)
    obtain ⟨g,o,rfl,d0,d1,d2⟩:=nt_at HC.out k x hx
    have d0:=kc hbel (kc HBW.out d0)
    have d1:=kc hbel (kc HBW.out d1)
    have d2:=kc hbel (kc HBW.out d2)
    obtain ⟨hx1,hx2⟩:=List.getElem?_eq_some_iff.1 hx
    have htk : ns.take (k + 1) = ns.take k ++ [x]:=by rw [List.take_succ_eq_append_getElem hx1,hx2]
    have hba:=bal hbel (.cells #[.string x.name,.string x.text,.int .i64 x.set] 165)
    have hown1:=orow_bel hown ((Below.refl wr.heap.size wr).alloc (Nat.le_refl _) (.cells #[.string x.name,.string x.text,.int .i64 x.set] 165))
    have hMb1 : (wr.alloc (.cells #[.string x.name,.string x.text,.int .i64 x.set] 165)).heap[w.heap.size + 1 + 1]? = _:=(heap_alloc_old _ _ hML).trans hMb
    have hz3 : k < 70368744177664:=by omega
    have hz5 : (k + 1) * 40 ≤ 140737488355328:=by omega
    obtain ⟨p3a,p3a'⟩:=live_of hMb1 3 _ rfl
    have HBA:=Lib.hid hba
    have HO1:=Lib.hid hown1
    have HZ3:=Lib.hid hz3
    have HZ5:=Lib.hid hz5
    have HTK:=Lib.hid htk
    have HMB1:=Lib.hid hMb1
    clear hba hown1 hz3 hz5 htk hMb1
    clear hx1 hx2 hx hMb
    go_wp2_with (first
     | (at_builtin;go_loud (refine wpList_push1 rfl _ _ 43 42 rfl Tryz.underlying43 (.agg #[.string ⟨#[]⟩,.string ⟨#[]⟩,.int .i64 0]) 3 40 infoRN rfl (by decide) (wr.alloc (.cells #[.string x.name,.string x.text,.int .i64 x.set] 165)) (W.heap.size + 1) (.slice av' k cv') k (ntcells (ns.take k)) rfl HO1.out #[.string x.name,.string x.text,.int .i64 x.set] rfl (by simp [Value.oneCell']) (by show Value.slice (some ⟨wr.heap.size + 1,0,none⟩) 1 1 = Value.slice (some ⟨(wr.alloc _).heap.size,0,none⟩) 1 1;rw [World.size_alloc]) HZ3.out HZ5.out (by have:=HWS.out;simp;omega) ?_;intro v7 w7 hown7 hb7 hk7;obtain ⟨av7,cv7,rfl⟩:=orow_form hown7;have hMb7:=(hb7.block (w.heap.size + 1 + 1) (by have:=HWS.out;omega)).trans HMB1.out;obtain ⟨r3,r3'⟩:=live_of hMb7 3 _ rfl)))
    have h8:=Go.Lib.heap_setCell_same (i:=3) hMb7 (.slice av7 (k + 1) cv7)
    have hown8 : (w7.setCell ⟨w.heap.size + 1 + 1,3,none⟩ (.slice av7 (k + 1) cv7)).ownsRow (W.heap.size + 1) 42 3 (.slice av7 (k + 1) cv7) (k + 1) (ntcells (ns.take (k + 1))):=by
     rw [HTK.out,ntcells_snoc']
     exact orow_other hown7 fun q hq=>Below.heap_setCell _ _ _ q (by have:=(orow_blk hown7 q hq).1;have:=HWS.out;simp;omega)
    have hb8 : Below W.heap.size W (w7.setCell ⟨w.heap.size + 1 + 1,3,none⟩ (.slice av7 (k + 1) cv7)) 
     := (HBA.out.trans (hb7.mono (by omega))).setCell (by have:=HWS.out;simp;omega) _
    go_roundw
    case rel=>exact ⟨k + 1,_,by go_num,by omega,by rw [h8];simp,hown8,hb8⟩
    case measure=>simp [intOf];omega
  · have hkn : k = n:=by omega
    have htk : ns.take k = ns:=List.take_of_length_le (by rw [← HN.out];omega)
    rw [htk] at hown
    have hres2:=(hbel.block (w.heap.size + 1) (by rw [HWS.out];omega)).trans HRES.out
    obtain ⟨q0,q0'⟩:=live_of hres2 0 _ rfl
    obtain ⟨q1,q1'⟩:=live_of hres2 1 _ rfl
    obtain ⟨q2,q2'⟩:=live_of hres2 2 _ rfl
    obtain ⟨q3,q3'⟩:=live_of hres2 3 _ rfl
    have hwz:=HWS.out
    have HKN:=Lib.hid hkn
    clear hkn
    go_wp2_with fail
    refine bodyPost_ret (v:=.agg #[.string ⟨#[]⟩,.string vt,.int .i64 vs,.slice av' k cv']) (by simp [results,Tryz.results50,go_sem,q0,q1,q2,q3,q0',q1',q2',q3']) rfl ?_
    have hgz:=gr_trans (gr_trans (gr_trans (gr_set wr (w.heap.size + 1) 0 (.string ⟨#[]⟩)) (gr_set _ (w.heap.size + 1) 1 (.string vt))) (gr_set _ (w.heap.size + 1) 2 (.int .i64 vs))) (gr_set _ (w.heap.size + 1) 3 (.slice av' k cv'))
    obtain rfl:=HKN.out
    refine ⟨_,rfl,orow_mono (orow_other hown fun q hq=>?_) (by omega),?_⟩
    · exact hgz.block q (orow_blk hown q hq).2 (by have:=(orow_blk hown q hq).1;simp;omega)
    · exact ((((HBW.out.trans (hbel.mono HBW.out.size)).setCell (by simp) _).setCell (by simp) _).setCell (by simp) _).setCell (by simp) _
theorem eqNote0 (x y : ByteArray) (z : Int) (w : World) : (Op.equalIn 10000 42 (.agg #[.string x,.string y,.int .i64 z]) (.agg #[.string x,.string y,.int .i64 z])).run Tryz.prog w = .ok true w:=by
 have hS : Tryz.prog.underlying 42 = some (.struct (Tryz.prog.fieldsOf 42)):=by kernel_rfl
 have hp : Tryz.prog.stoodInHeld 42 = false:=by kernel_rfl
 rw [show (10000 : Nat) = 9999 + 1 from rfl,run_equalIn_agg w 9999 42 _ _ hS hp]
 simp only [Program.fieldsOf,Tryz.underlying42]
 simp [go_sem,Op.eqFields]
theorem neqNote (x y : ByteArray) (z : Int) (w : World) : (binOp .neq 42 (.agg #[.string x,.string y,.int .i64 z]) (.agg #[.string x,.string y,.int .i64 z])).run Tryz.prog w = .ok (.bool false) w:=by
 rw [run_neq_struct,eqNote0];rfl
theorem guardNote (op : BinOp) (x y : Operand) (xs ys : Array Value) (w : World) : (eqGuard op 42 x y (.agg xs) (.agg ys)).run Tryz.prog w = .ok () w:=run_eqGuard_agg w op 42 x y xs ys (by kernel_rfl)
def rmcells (l : List Mt) : List Value:=l.flatMap fun m=>[.int .i64 m.kind,.string m.body]
theorem rmcells_append (l m : List Mt) : rmcells (l ++ m) = rmcells l ++ rmcells m:=by simp [rmcells]
theorem rmcells_snoc (l : List Mt) (m : Mt) : rmcells (l ++ [m]) = rmcells l ++ (#[.int .i64 m.kind,.string m.body] : Array Value).toList:=by rw [rmcells_append];rfl
theorem rmcells_at (l : List Mt) (i : Nat) (m : Mt) (h : l[i]? = some m) : (rmcells l)[i * 2]? = some (.int .i64 m.kind) ∧ (rmcells l)[i * 2 + 1]? = some (.string m.body):=by
 induction l generalizing i with
 | nil=>simp at h
 | cons a l ih=>
  cases i with
  | zero=>
   simp at h
   subst h
   exact ⟨rfl,rfl⟩
  | succ i=>
   have:=ih i (by simpa using h)
   have e : rmcells (a :: l) = [.int .i64 a.kind,.string a.body] ++ rmcells l:=rfl
   rw [e]
   refine ⟨?_,?_⟩
   · rw [List.getElem?_append_right (by simp;omega)]
     rw [show (i + 1) * 2 - [Value.int .i64 a.kind,.string a.body].length = i * 2 by simp;omega]
     exact this.1
   · rw [List.getElem?_append_right (by simp;omega)]
     rw [show (i + 1) * 2 + 1 - [Value.int .i64 a.kind,.string a.body].length = i * 2 + 1 by simp;omega]
     exact this.2
theorem rm_at {w : World} {av : Option Addr} {l : List Mt} (hc : ∀ (j : Nat) (x : Value),(rmcells l)[j]? = some x → ∃ g o,av = some ⟨g,o,none⟩ ∧ w.cell? ⟨g,o + j,none⟩ = some x) (k : Nat) (m : Mt) (hk : l[k]? = some m) :
 ∃ g o,av = some ⟨g,o,none⟩ ∧ w.cell? ⟨g,o + k * 2,none⟩ = some (.int .i64 m.kind) ∧ w.cell? ⟨g,o + k * 2 + 1,none⟩ = some (.string m.body):=by
 obtain ⟨h0,h1⟩:=rmcells_at l k m hk
 obtain ⟨g,o,rfl,c0⟩:=hc _ _ h0
 obtain ⟨g',o',e,c1⟩:=hc _ _ h1
 simp only [Option.some.injEq,Addr.mk.injEq,and_true] at e
 obtain ⟨rfl,rfl⟩:=e
 exact ⟨g,o,rfl,c0,c1⟩
theorem infoRM : (Tryz.prog.info? 116).map (fun i=>(i.zero,i.size,i.bytes)) = some (some (.agg #[.int .i64 0,.string ⟨#[]⟩]),2,24):=by kernel_rfl
def rfV (vm vb : Value) (f : Fl) : Value:=.agg #[vm,.string ⟨#[]⟩,.string f.b.vt,.int .i64 f.b.vs,vb,.int .i64 f.at_,.string f.sound]
def RfRow (w : World) (vm vb : Value) (f : Fl) : Prop:=Row w vm f.ms.length (rmcells f.ms) ∧ Row w vb f.b.ns.length (ntcells f.b.ns)
set_option maxRecDepth 100000 in
theorem fof_any (vm vb : Value) (f : Fl) (w : World) (hrow : FlRow w vm vb f) (hok : smFl f) (hk : ∀ m ∈ f.ms,m.kind < 256) :
 Calls Tryz.prog 13 #[flV vm vb f] w fun e w'=>∃ vm' vb',e = .returned (rfV vm' vb' f) ∧ w'.ownsRow w.heap.size 116 2 vm' f.ms.length (rmcells f.ms) ∧ w'.ownsRow w.heap.size 42 3 vb' f.b.ns.length (ntcells f.b.ns) ∧ Below w.heap.size w w':=by
 have kof : ∀ w',Below w.heap.size w w' → Calls Tryz.prog 50 #[.agg #[.string f.b.vt,.int .i64 f.b.vs,vb]] w' fun e w''=>∃ v',e = .returned (.agg #[.string ⟨#[]⟩,.string f.b.vt,.int .i64 f.b.vs,v']) ∧ w''.ownsRow w'.heap.size 42 3 v' f.b.ns.length (ntcells f.b.ns) ∧ Below w'.heap.size w' w'':=fun w' hb=>lof_any vb f.b w' (hrow.2.keep hb) hok.1 hok.2.2.2.1
 obtain ⟨⟨am,cm,rfl,hc⟩,⟨an,cn,rfl,_⟩⟩:=hrow
 obtain ⟨_,o2,o3,o4,_⟩:=hok
 unfold flV rfV
 obtain ⟨ms,⟨vt,vs,ns⟩,at_,snd⟩:=f
 simp only at kof hc o2 o3 o4 hk ⊢
 obtain ⟨n,hn⟩ : ∃ n,n = ms.length:=⟨_,rfl⟩
 obtain ⟨nn,hnn⟩ : ∃ nn,nn = ns.length:=⟨_,rfl⟩
 rw [← hn] at o2 ⊢
 rw [← hnn] at kof o4 ⊢
 obtain ⟨W,hW⟩ : ∃ W,W = (w.alloc (.cells #[.slice am n cm,.string vt,.int .i64 vs,.slice an nn cn,.int .i64 at_,.string snd] 31)).alloc (.cells #[.slice none 0 0,.string ⟨#[]⟩,.string ⟨#[]⟩,.int .i64 0,.slice none 0 0,.int .i64 0,.string ⟨#[]⟩] 47):=⟨_,rfl⟩
 have hs1 : (w.alloc (.cells #[.slice am n cm,.string vt,.int .i64 vs,.slice an nn cn,.int .i64 at_,.string snd] 31)).heap.size = w.heap.size + 1:=World.size_alloc _ _
 have hWs : W.heap.size = w.heap.size + 1 + 1:=by rw [hW,World.size_alloc,World.size_alloc]
 have hbW : Below w.heap.size w W:=by rw [hW];exact bal (bal (Below.refl _ _) _) _
 have lc : ∀ (i : Nat) (u : Value),(#[.slice am n cm,.string vt,.int .i64 vs,.slice an nn cn,.int .i64 at_,.string snd] : Array Value)[i]? = some u → W.cell? ⟨w.heap.size,i,none⟩ = some u:=by
  intro i u hu;rw [hW];exact ((Live.fresh w _ 31 i u hu).alloc _).1
 have hres : W.heap[w.heap.size + 1]? = some (.cells #[.slice none 0 0,.string ⟨#[]⟩,.string ⟨#[]⟩,.int .i64 0,.slice none 0 0,.int .i64 0,.string ⟨#[]⟩] 47 (0,0)):=by
  rw [hW,← hs1];exact heap_alloc_new _ _
 have c0:=lc 0 _ rfl
 have c1:=lc 1 _ rfl
 have c2:=lc 2 _ rfl
 have c3:=lc 3 _ rfl
 have c4:=lc 4 _ rfl
 have c5:=lc 5 _ rfl
 have n1:=World.new_ne _ _ c1
 have n2:=World.new_ne _ _ c2
 have n3:=World.new_ne _ _ c3
 have n4:=World.new_ne _ _ c4
 have n5:=World.new_ne _ _ c5
 have C0:=Lib.hid c0
 clear lc hs1
 have HC:=Lib.hid hc
 have HN:=Lib.hid hn
 have HNN:=Lib.hid hnn
 have O3:=Lib.hid o3
 have HBW:=Lib.hid hbW
 have HRES:=Lib.hid hres
 have HWS:=Lib.hid hWs
 have KOF:=Lib.hid kof
 have HK:=Lib.hid hk
 have O2:=Lib.hid o2
 clear hc hn hnn o3 hbW hres hWs kof hk o2
 go_enter Tryz.func13,Tryz.ntmps13
 go_wp2_with fail
 rw [← hW]
 clear hW
 go_cut [3] (fun s3 wx=>∃ (gb : Nat) (a' : Option Addr) (c' : Nat),s3 = .pointer (some ⟨gb,0,none⟩) ∧ W.heap.size ≤ gb ∧ Below W.heap.size W wx ∧ wx.heap[gb]? = some (.cells #[.slice none 0 0,.string ⟨#[]⟩,.string vt,.int .i64 vs,.slice a' nn c',.int .i64 at_,.string snd] 47 (0,0)) ∧ wx.ownsRow W.heap.size 42 3 (.slice a' nn c') nn (ntcells ns))
 case first=>
  have KSA : Hid (∀ wz,Below W.heap.size W wz → wz.cell? ⟨w.heap.size,1,none⟩ = some (.string vt) ∧ wz.cell? ⟨w.heap.size,2,none⟩ = some (.int .i64 vs) ∧ wz.cell? ⟨w.heap.size,3,none⟩ = some (.slice an nn cn) ∧ wz.cell? ⟨w.heap.size,4,none⟩ = some (.int .i64 at_) ∧ wz.cell? ⟨w.heap.size,5,none⟩ = some (.string snd)):=Lib.hid fun wz hb=>⟨kc hb c1,kc hb c2,kc hb c3,kc hb c4,kc hb c5⟩
  go_region_held3 (fun w'=>w'.cell? ⟨w.heap.size,1,none⟩ = some (.string vt) ∧ w'.cell? ⟨w.heap.size,2,none⟩ = some (.int .i64 vs) ∧ w'.cell? ⟨w.heap.size,3,none⟩ = some (.slice an nn cn) ∧ w'.cell? ⟨w.heap.size,4,none⟩ = some (.int .i64 at_) ∧ w'.cell? ⟨w.heap.size,5,none⟩ = some (.string snd))
   (first | (with_reducible refine KSA.out _ ?_;first | exact hbz | exact bal hbz _ | (iterate 7 (refine Below.setCell ?_ (by first | exact hG | exact Nat.le_refl _) _);first | exact hbz | exact bal hbz _)) | go_keep)
   (first | (go_at_call 50;refine (KOF.out _ ?_).mono ?_;(first | exact HBW.out.trans ((Below.refl W.heap.size W).drew.mono HBW.out.size) | exact HBW.out.trans ((bal (Below.refl W.heap.size W) _).mono HBW.out.size) | exact HBW.out.trans ((bal (Below.refl W.heap.size W).drew _).mono HBW.out.size) | exact HBW.out.trans ((bal (Below.refl W.heap.size W) _).drew.mono HBW.out.size));rintro e w3 ⟨v',rfl,hon,hb3⟩;obtain ⟨a',c',rfl⟩:=orow_form hon;have hbz : Below W.heap.size W w3:=(by first | exact bt (Below.refl _ _).drew hb3 | exact bt (bal (Below.refl _ _).drew _) hb3 | exact bt (bal (Below.refl _ _) _) hb3);(first | (have hzb : w3.heap[W.heap.size]? = some (.cells #[.slice none 0 0,.string ⟨#[]⟩,.string ⟨#[]⟩,.int .i64 0,.slice none 0 0,.int .i64 0,.string ⟨#[]⟩] 47 (0,0)):=(hb3.block _ (by simp)).trans (heap_alloc_new _ _);have z0:=live_of hzb 0 _ rfl;obtain ⟨z0,y0⟩:=z0;have z1:=live_of hzb 1 _ rfl;obtain ⟨z1,y1⟩:=z1;have z2:=live_of hzb 2 _ rfl;obtain ⟨z2,y2⟩:=z2;have z3:=live_of hzb 3 _ rfl;obtain ⟨z3,y3⟩:=z3;have z4:=live_of hzb 4 _ rfl;obtain ⟨z4,y4⟩:=z4;have z5:=live_of hzb 5 _ rfl;obtain ⟨z5,y5⟩:=z5;have z6:=live_of hzb 6 _ rfl;obtain ⟨z6,y6⟩:=z6;have hG : W.heap.size ≤ W.heap.size:=Nat.le_refl _) | have hG : W.heap.size ≤ w3.heap.size:=hbz.size)))
  all_goals
   first
    | (have hM : (w3.alloc (.cells #[.slice none 0 0,.string ⟨#[]⟩,.string vt,.int .i64 vs,.slice a' nn c',.int .i64 at_,.string snd] 47)).heap[w3.heap.size]? = some (.cells #[.slice none 0 0,.string ⟨#[]⟩,.string vt,.int .i64 vs,.slice a' nn c',.int .i64 at_,.string snd] 47 (0,0)):=heap_alloc_new _ _
       go_wp2_with fail
       go_meet
       exact ⟨_,a',c',rfl,hbz.size,bal hbz _,hM,orow_mono (orow_bel hon (bal (Below.refl _ _) _)) (by simp)⟩)
    | (have e0:=Go.Lib.heap_setCell_same (i:=0) hzb (.slice none 0 0)
       have e1:=Go.Lib.heap_setCell_same (i:=1) e0 (.string ⟨#[]⟩)
       have e2:=Go.Lib.heap_setCell_same (i:=2) e1 (.string vt)
       have e3:=Go.Lib.heap_setCell_same (i:=3) e2 (.int .i64 vs)
       have e4:=Go.Lib.heap_setCell_same (i:=4) e3 (.slice a' nn c')
       have e5:=Go.Lib.heap_setCell_same (i:=5) e4 (.int .i64 at_)
       have e6:=Go.Lib.heap_setCell_same (i:=6) e5 (.string snd)
       have hM : (((((((w3.setCell ⟨W.heap.size,0,none⟩ (.slice none 0 0)).setCell ⟨W.heap.size,1,none⟩ (.string ⟨#[]⟩)).setCell ⟨W.heap.size,2,none⟩ (.string vt)).setCell ⟨W.heap.size,3,none⟩ (.int .i64 vs)).setCell ⟨W.heap.size,4,none⟩ (.slice a' nn c')).setCell ⟨W.heap.size,5,none⟩ (.int .i64 at_)).setCell ⟨W.heap.size,6,none⟩ (.string snd)).heap[W.heap.size]? = some (.cells #[.slice none 0 0,.string ⟨#[]⟩,.string vt,.int .i64 vs,.slice a' nn c',.int .i64 at_,.string snd] 47 (0,0)):=by rw [e6];simp
       have hB : Below W.heap.size W (((((((w3.setCell ⟨W.heap.size,0,none⟩ (.slice none 0 0)).setCell ⟨W.heap.size,1,none⟩ (.string ⟨#[]⟩)).setCell ⟨W.heap.size,2,none⟩ (.string vt)).setCell ⟨W.heap.size,3,none⟩ (.int .i64 vs)).setCell ⟨W.heap.size,4,none⟩ (.slice a' nn c')).setCell ⟨W.heap.size,5,none⟩ (.int .i64 at_)).setCell ⟨W.heap.size,6,none⟩ (.string snd)):=by (iterate 7 (refine Below.setCell ?_ (by exact Nat.le_refl _) _));exact hbz
       have hO:=orow_other (w':=(((((((w3.setCell ⟨W.heap.size,0,none⟩ (.slice none 0 0)).setCell ⟨W.heap.size,1,none⟩ (.string ⟨#[]⟩)).setCell ⟨W.heap.size,2,none⟩ (.string vt)).setCell ⟨W.heap.size,3,none⟩ (.int .i64 vs)).setCell ⟨W.heap.size,4,none⟩ (.slice a' nn c')).setCell ⟨W.heap.size,5,none⟩ (.int .i64 at_)).setCell ⟨W.heap.size,6,none⟩ (.string snd))) hon (fun q hq=>by iterate 7 (rw [Below.heap_setCell _ _ _ q (by have:=(orow_blk hon q hq).1;simp at this;simp;omega)]))
       go_wp2_with fail
       go_meet
       exact ⟨_,a',c',rfl,Nat.le_refl _,hB,hM,orow_mono hO (by simp)⟩)
 case rest=>
  obtain ⟨gb,a',c',rfl,hgb,hbx,hM,hon⟩:=hcut
  have d0:=kc hbx C0.out
  clear c0 c1 c2 c3 c4 c5 n1 n2 n3 n4 n5
  go_wp2_with fail
  go_loopw [17] (fun iv wr=>∃ (k : Nat) (vm' : Value),iv = .int .i64 (k : Int) ∧ k ≤ n ∧ wr.heap[gb]? = some (.cells #[vm',.string ⟨#[]⟩,.string vt,.int .i64 vs,.slice a' nn c',.int .i64 at_,.string snd] 47 (0,0)) ∧ wr.ownsRow W.heap.size 116 2 vm' k (rmcells (ms.take k)) ∧ wr.ownsRow W.heap.size 42 3 (.slice a' nn c') nn (ntcells ns) ∧ Below W.heap.size W wr) (fun iv _=>n - (intOf iv).toNat)
  case atStart=>exact ⟨0,.slice none 0 0,rfl,Nat.zero_le _,hM,World.ownsRow_nil _ _ _ _,hon,hbx⟩
  case round=>
   clear hM d0 hon hbx
   obtain ⟨k,vm',rfl,hk,hMb,hown,hon,hbel⟩:=hrel
   obtain ⟨av',cv',rfl⟩:=orow_form hown
   obtain ⟨p0,p0'⟩:=live_of hMb 0 _ rfl
   obtain ⟨p1,p1'⟩:=live_of hMb 1 _ rfl
   obtain ⟨p2,p2'⟩:=live_of hMb 2 _ rfl
   obtain ⟨p3,p3'⟩:=live_of hMb 3 _ rfl
   obtain ⟨p4,p4'⟩:=live_of hMb 4 _ rfl
   obtain ⟨p5,p5'⟩:=live_of hMb 5 _ rfl
   obtain ⟨p6,p6'⟩:=live_of hMb 6 _ rfl
   have hML:=(Array.getElem?_eq_some_iff.1 hMb).1
   have hlr:=hbel.size
   by_cases hlt : k < n
   · obtain ⟨x,hx⟩:=at_some ms k (by rw [← HN.out];exact hlt)
     obtain ⟨g,o,rfl,d0,d1⟩:=mt_at HC.out k x hx
     have d0:=kc hbel (kc HBW.out d0)
     have d1:=kc hbel (kc HBW.out d1)
     have hkd:=HK.out x (List.mem_of_getElem? hx)
     obtain ⟨hx1,hx2⟩:=List.getElem?_eq_some_iff.1 hx
     have htk : ms.take (k + 1) = ms.take k ++ [x]:=by rw [List.take_succ_eq_append_getElem hx1,hx2]
     have hba:=bal hbel (.cells #[.int .u8 x.kind,.string x.body] 102)
     have hbb:=(Below.refl wr.heap.size wr).alloc (Nat.le_refl _) (.cells #[.int .u8 x.kind,.string x.body] 102)
     have hown1:=orow_bel hown hbb
     have hon1:=orow_bel hon hbb
     have hMb1 : (wr.alloc (.cells #[.int .u8 x.kind,.string x.body] 102)).heap[gb]? = _:=(heap_alloc_old _ _ hML).trans hMb
     have hz3 : k < 70368744177664:=by have:=O2.out;omega
     have hz5 : (k + 1) * 24 ≤ 140737488355328:=by have:=O2.out;omega
     have hwk : IntKind.i64.wrap (x.kind : Int) = x.kind:=wi64 _ (by omega) (by omega)
     have hw1 : IntKind.i64.wrap ((k : Int) + 1) = (k : Int) + 1:=wi64 _ (by omega) (by have:=O2.out;omega)
     obtain ⟨p0a,p0a'⟩:=live_of hMb1 0 _ rfl
     have HBA:=Lib.hid hba
     have HO1:=Lib.hid hown1
     have HN1:=Lib.hid hon1
     have HZ3:=Lib.hid hz3
     have HZ5:=Lib.hid hz5
     have HTK:=Lib.hid htk
     have HMB1:=Lib.hid hMb1
     have HLR:=Lib.hid hlr
     have HML:=Lib.hid hML
     have HOWN:=Lib.hid hown
     have HON:=Lib.hid hon
     clear hba hown1 hon1 hz3 hz5 htk hMb1 hlr hML hown hon
     clear hx1 hx2 hx hMb hkd
     go_wp2_with (first
      | (at_builtin;go_loud (refine wpList_push1 rfl _ _ 40 116 rfl Tryz.underlying40 (.agg #[.int .i64 0,.string ⟨#[]⟩]) 2 24 infoRM rfl (by decide) (wr.alloc (.cells #[.int .u8 x.kind,.string x.body] 102)) W.heap.size (.slice av' k cv') k (rmcells (ms.take k)) rfl HO1.out #[.int .i64 x.kind,.string x.body] rfl (by simp [Value.oneCell']) (by show Value.slice (some ⟨wr.heap.size + 1,0,none⟩) 1 1 = Value.slice (some ⟨(wr.alloc _).heap.size,0,none⟩) 1 1;rw [World.size_alloc]) HZ3.out HZ5.out (by have:=HLR.out;simp;omega) ?_;intro v7 w7 hown7 hb7 hk7;obtain ⟨av7,cv7,rfl⟩:=orow_form hown7;have hMb7:=(hk7 gb (by have:=HML.out;simp;omega) (fun e=>orow_tag HO1.out HMB1.out (by decide) e.symm)).trans HMB1.out;obtain ⟨r0,r0'⟩:=live_of hMb7 0 _ rfl)))
     have h8:=Go.Lib.heap_setCell_same (i:=0) hMb7 (.slice av7 (k + 1) cv7)
     have hown8 : (w7.setCell ⟨gb,0,none⟩ (.slice av7 (k + 1) cv7)).ownsRow W.heap.size 116 2 (.slice av7 (k + 1) cv7) (k + 1) (rmcells (ms.take (k + 1))):=by
      rw [HTK.out,rmcells_snoc]
      exact orow_other hown7 fun q hq=>Below.heap_setCell _ _ _ q (by intro e;simp only at e;subst e;exact orow_tag hown7 hMb7 (by decide) hq)
     have hon7:=orow_other HN1.out fun q hq=>hk7 q (orow_blk HN1.out q hq).2 (fun e=>orow_ne HN1.out HO1.out (by decide) q hq e.symm)
     have hon8:=orow_other (w':=w7.setCell ⟨gb,0,none⟩ (.slice av7 (k + 1) cv7)) hon7 fun q hq=>Below.heap_setCell _ _ _ q (by intro e;simp only at e;subst e;exact orow_tag hon7 hMb7 (by decide) hq)
     have hb8 : Below W.heap.size W (w7.setCell ⟨gb,0,none⟩ (.slice av7 (k + 1) cv7)):=(HBA.out.trans hb7).setCell hgb _
     go_roundw
     case rel=>exact ⟨k + 1,_,by go_num,by omega,by rw [h8];simp,hown8,hon8,hb8⟩
     case measure=>simp [intOf];omega
   · have hkn : k = n:=by omega
     have htk : ms.take k = ms:=List.take_of_length_le (by rw [← HN.out];omega)
     rw [htk] at hown
     have hres2:=(hbel.block (w.heap.size + 1) (by rw [HWS.out];omega)).trans HRES.out
     obtain ⟨q0,q0'⟩:=live_of hres2 0 _ rfl
     obtain ⟨q1,q1'⟩:=live_of hres2 1 _ rfl
     obtain ⟨q2,q2'⟩:=live_of hres2 2 _ rfl
     obtain ⟨q3,q3'⟩:=live_of hres2 3 _ rfl
     obtain ⟨q4,q4'⟩:=live_of hres2 4 _ rfl
     obtain ⟨q5,q5'⟩:=live_of hres2 5 _ rfl
     obtain ⟨q6,q6'⟩:=live_of hres2 6 _ rfl
     have hwz:=HWS.out
     have hbz:=HBW.out.trans (hbel.mono HBW.out.size)
     have HKN:=Lib.hid hkn
     have HBZ:=Lib.hid hbz
     have HOWN:=Lib.hid hown
     have HON:=Lib.hid hon
     clear hkn hbz hown hon
     clear hMb
     go_wp2_with fail
     refine bodyPost_ret (v:=.agg #[.slice av' k cv',.string ⟨#[]⟩,.string vt,.int .i64 vs,.slice a' nn c',.int .i64 at_,.string snd]) (by simp [results,Tryz.results13,go_sem,q0,q1,q2,q3,q4,q5,q6,q0',q1',q2',q3',q4',q5',q6']) rfl ?_
     obtain rfl:=HKN.out
     refine ⟨_,_,rfl,orow_mono (orow_other HOWN.out fun q hq=>?_) (by omega),orow_mono (orow_other HON.out fun q hq=>?_) (by omega),?_⟩
     · iterate 7 rw [Below.heap_setCell _ _ _ q (by have:=(orow_blk HOWN.out q hq).1;simp;omega)]
     · iterate 7 rw [Below.heap_setCell _ _ _ q (by have:=(orow_blk HON.out q hq).1;simp;omega)]
     · iterate 7 (refine Below.setCell ?_ (by simp) _)
       exact HBZ.out
theorem eqMeta0 (x : Int) (y : ByteArray) (w : World) : (Op.equalIn 10000 116 (.agg #[.int .i64 x,.string y]) (.agg #[.int .i64 x,.string y])).run Tryz.prog w = .ok true w:=by
 have hS : Tryz.prog.underlying 116 = some (.struct (Tryz.prog.fieldsOf 116)):=by kernel_rfl
 have hp : Tryz.prog.stoodInHeld 116 = false:=by kernel_rfl
 rw [show (10000 : Nat) = 9999 + 1 from rfl,run_equalIn_agg w 9999 116 _ _ hS hp]
 simp only [Program.fieldsOf,Tryz.underlying116]
 simp [go_sem,Op.eqFields]
theorem neqMeta (x : Int) (y : ByteArray) (w : World) : (binOp .neq 116 (.agg #[.int .i64 x,.string y]) (.agg #[.int .i64 x,.string y])).run Tryz.prog w = .ok (.bool false) w:=by
 rw [run_neq_struct,eqMeta0];rfl
theorem guardMeta (op : BinOp) (x y : Operand) (xs ys : Array Value) (w : World) : (eqGuard op 116 x y (.agg xs) (.agg ys)).run Tryz.prog w = .ok () w:=run_eqGuard_agg w op 116 x y xs ys (by kernel_rfl)
end Go.Proofs.YtmfjmgjhfplijaaGreatDoor
