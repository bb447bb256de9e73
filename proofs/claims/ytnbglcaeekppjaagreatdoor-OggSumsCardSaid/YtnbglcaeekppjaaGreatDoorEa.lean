/- Qc, Qd, Qf, Qe, Qg -/
import Derived.Test.YtnbglcaeekppjaaGreatDoorMGC
import Derived.Test.YtnbglcaeekppjaaGreatDoorMGA
import Derived.Test.YtnbglcaeekppjaaGreatDoorMFe
import Derived.Deep.RegionHeld3
import Derived.Test.YtnbglcaeekppjaaGreatDoorMAy
import Derived.Test.YtnbglcaeekppjaaGreatDoorMGB
import Derived.Test.YtnbglcaeekppjaaGreatDoorMCy
namespace Go.Proofs.YtnbglcaeekppjaaGreatDoor
open Go.RowKit
set_option linter.unusedVariables false
set_option linter.unusedSimpArgs false

theorem gcells_at (l : List PG) (i : Nat) (p : PG) (h : l[i]? = some p) (j : Nat) (v : Value) (hj : (g1cells p)[j]? = some v) : (gcells l)[i * 6 + j]? = some v:=by
  have hj6 : j < 6:=(List.getElem?_eq_some_iff.1 hj).1
  induction l generalizing i with
  | nil=>simp at h
  | cons q r ih=>
    have hl : (g1cells q).length = 6:=rfl
    unfold gcells
    rw [List.flatMap_cons]
    cases i with
    | zero=>
      simp only [List.getElem?_cons_zero,Option.some.injEq] at h
      subst h
      rw [Nat.zero_mul,Nat.zero_add,List.getElem?_append_left (by rw [hl];exact hj6)]
      exact hj
    | succ i=>
      rw [List.getElem?_append_right (by rw [hl];omega),hl,show (i + 1) * 6 + j - 6 = i * 6 + j by omega]
      exact ih i (by simpa using h)
theorem gcells_length (l : List PG) : (gcells l).length = l.length * 6:=by
  induction l with
  | nil=>rfl
  | cons q r ih=>
    unfold gcells at ih ⊢
    rw [List.flatMap_cons,List.length_append,ih,List.length_cons,show (g1cells q).length = 6 from rfl]
    omega
theorem g_at {w : World} {av : Option Addr} {l : List PG} (hc : ∀ (j : Nat) (x : Value),(gcells l)[j]? = some x → ∃ g o,av = some ⟨g,o,none⟩ ∧ w.cell? ⟨g,o + j,none⟩ = some x) (k : Nat) (p : PG) (hk : l[k]? = some p) :
    ∃ g o,av = some ⟨g,o,none⟩ ∧ w.cell? ⟨g,o + k * 6,none⟩ = some (.int .u8 p.fl.toNat) ∧ w.cell? ⟨g,o + k * 6 + 1,none⟩ = some (.int .u64 p.po) ∧ w.cell? ⟨g,o + k * 6 + 2,none⟩ = some (.int .u32 p.se) ∧ w.cell? ⟨g,o + k * 6 + 3,none⟩ = some (.int .u32 p.nu) ∧ w.cell? ⟨g,o + k * 6 + 4,none⟩ = some (.string p.la) ∧ w.cell? ⟨g,o + k * 6 + 5,none⟩ = some (.string p.bo):=by
  have hx : ∀ (j : Nat) (v : Value),(g1cells p)[j]? = some v → ∃ g o,av = some ⟨g,o,none⟩ ∧ w.cell? ⟨g,o + (k * 6 + j),none⟩ = some v:=fun j v hj=>hc _ _ (gcells_at l k p hk j v hj)
  obtain ⟨g,o,rfl,c0⟩:=hx 0 _ rfl
  have hy : ∀ (j : Nat) (v : Value),(g1cells p)[j]? = some v → w.cell? ⟨g,o + k * 6 + j,none⟩ = some v:=by
    intro j v hj
    obtain ⟨g',o',e,c⟩:=hx j v hj
    simp only [Option.some.injEq,Addr.mk.injEq,and_true] at e
    obtain ⟨rfl,rfl⟩:=e
    rw [Nat.add_assoc]
    exact c
  exact ⟨g,o,rfl,hy 0 _ rfl,hy 1 _ rfl,hy 2 _ rfl,hy 3 _ rfl,hy 4 _ rfl,hy 5 _ rfl⟩
theorem row_g {w : World} {av : Option Addr} {n cap : Nat} {l : List PG} (h : Row w (.slice av n cap) n (gcells l)) : ∀ (j : Nat) (x : Value),(gcells l)[j]? = some x → ∃ g o,av = some ⟨g,o,none⟩ ∧ w.cell? ⟨g,o + j,none⟩ = some x:=by
  obtain ⟨a,c,h1,h2⟩:=h
  simp only [Value.slice.injEq] at h1
  obtain ⟨rfl,_,_⟩:=h1
  exact h2
end Go.Proofs.YtnbglcaeekppjaaGreatDoor

namespace Go.Proofs.YtnbglcaeekppjaaGreatDoor
open Go.RowKit
set_option linter.unusedVariables false
set_option linter.unusedSimpArgs false

def toB (l : List UInt8) : ByteArray:=⟨l.toArray⟩
theorem bl_toB (l : List UInt8) : bl (toB l) = l:=blL l
theorem szB (l : List UInt8) : (toB l).size = l.length:=szL l
/-- what is joined so far. -/
def partJ (B : List UInt8) (fr tz : Nat) (pt : List ByteArray) : List UInt8:=(pt.map bl).flatten ++ (B.drop fr).take (tz - fr)
/-- between two laces of a page. -/
def jrel (L B : List UInt8) (k fr tz : Nat) (ps : List (List UInt8)) (pt : List ByteArray) (op : Bool) (P1 : List (List UInt8)) (part1 : List UInt8) (op1 : Bool) : Prop:=
  ps ++ (cutG (L.drop k) (B.drop tz) (partJ B fr tz pt)).1 = P1 ∧ (cutG (L.drop k) (B.drop tz) (partJ B fr tz pt)).2 = part1 ∧ openL op (L.drop k) = op1
theorem partJ_more (B : List UInt8) (fr tz c : Nat) (pt : List ByteArray) (h : fr ≤ tz) : partJ B fr tz pt ++ (B.drop tz).take c = partJ B fr (tz + c) pt:=by
  unfold partJ
  rw [List.append_assoc,show tz + c - fr = (tz - fr) + c by omega,List.take_add,List.drop_drop,show fr + (tz - fr) = tz by omega]
theorem openL_one (op : Bool) (c : UInt8) (r : List UInt8) : openL op (c :: r) = openL (c == 255) r:=by
  have:=openL_split op [c] r
  rw [List.cons_append,List.nil_append] at this
  rw [← this]
  rfl
theorem jrel_full {L B : List UInt8} {k fr tz : Nat} {ps : List (List UInt8)} {pt : List ByteArray} {op : Bool} {P1 : List (List UInt8)} {part1 : List UInt8} {op1 : Bool}
    (h : jrel L B k fr tz ps pt op P1 part1 op1) (hft : fr ≤ tz) (hk : L[k]? = some 255) : jrel L B (k + 1) fr (tz + 255) ps pt true P1 part1 op1:=by
  obtain ⟨h1,h2,h3⟩:=h
  obtain ⟨hc1,hc2⟩:=List.getElem?_eq_some_iff.1 hk
  rw [List.drop_eq_getElem_cons hc1,hc2,cutG,if_pos rfl,partJ_more _ _ _ _ _ hft,List.drop_drop] at h1 h2
  rw [List.drop_eq_getElem_cons hc1,hc2,openL_one] at h3
  exact ⟨h1,h2,h3⟩
theorem jrel_end {L B : List UInt8} {k fr tz : Nat} {ps : List (List UInt8)} {pt : List ByteArray} {op : Bool} {P1 : List (List UInt8)} {part1 : List UInt8} {op1 : Bool} {c : UInt8}
    (h : jrel L B k fr tz ps pt op P1 part1 op1) (hft : fr ≤ tz) (hk : L[k]? = some c) (hc : c ≠ 255) :
    jrel L B (k + 1) (tz + c.toNat) (tz + c.toNat) (ps ++ [partJ B fr (tz + c.toNat) pt]) [] false P1 part1 op1:=by
  obtain ⟨h1,h2,h3⟩:=h
  obtain ⟨hc1,hc2⟩:=List.getElem?_eq_some_iff.1 hk
  rw [List.drop_eq_getElem_cons hc1,hc2,cutG,if_neg hc,partJ_more _ _ _ _ _ hft,List.drop_drop] at h1 h2
  rw [List.drop_eq_getElem_cons hc1,hc2,openL_one,show (c == 255) = false from beq_eq_false_iff_ne.2 hc] at h3
  have e : partJ B (tz + c.toNat) (tz + c.toNat) [] = []:=by unfold partJ;simp
  refine ⟨?_,?_,h3⟩
  · rw [e,List.append_assoc,List.cons_append,List.nil_append];exact h1
  · rw [e];exact h2
theorem jrel_done {L B : List UInt8} {k fr tz : Nat} {ps : List (List UInt8)} {pt : List ByteArray} {op : Bool} {P1 : List (List UInt8)} {part1 : List UInt8} {op1 : Bool}
    (h : jrel L B k fr tz ps pt op P1 part1 op1) (hk : L.length ≤ k) : P1 = ps ∧ part1 = partJ B fr tz pt ∧ op1 = op:=by
  obtain ⟨h1,h2,h3⟩:=h
  rw [List.drop_of_length_le hk] at h1 h2 h3
  exact ⟨by rw [← h1];simp [cutG],by rw [← h2];simp [cutG],by rw [← h3];rfl⟩
theorem jrel_start (L B : List UInt8) (ps : List (List UInt8)) (pt : List ByteArray) (op : Bool) :
    jrel L B 0 0 0 ps pt op (ps ++ (cutG L B (pt.map bl).flatten).1) (cutG L B (pt.map bl).flatten).2 (openL op L):=by
  unfold jrel partJ
  simp
theorem partJ_push (B : List UInt8) (fr tz : Nat) (pt : List ByteArray) (x : ByteArray) (hx : bl x = (B.drop fr).take (tz - fr)) : ((pt ++ [x]).map bl).flatten = partJ B fr tz pt:=by
  unfold partJ
  rw [List.map_append,List.flatten_append,← hx]
  simp
theorem partJ_none (B : List UInt8) (fr tz : Nat) (pt : List ByteArray) (h : ¬ fr < tz) : (pt.map bl).flatten = partJ B fr tz pt:=by
  unfold partJ
  rw [show tz - fr = 0 by omega]
  simp
theorem bl_ext (s : ByteArray) (a b : Nat) : bl (s.extract a b) = ((bl s).drop a).take (b - a):=by
  show (s.extract a b).data.toList = _
  rw [ByteArray.data_extract,Array.toList_extract,List.extract_eq_take_drop]
end Go.Proofs.YtnbglcaeekppjaaGreatDoor

namespace Go.Proofs.YtnbglcaeekppjaaGreatDoor
open Go.RowKit
set_option linter.unusedVariables false
set_option linter.unusedSimpArgs false

/-- what stands while packets are joined: the fault that is handed back, the packets, the parts of the one that goes on. -/
structure JS (w : World) (v1 v2 : Value) (ps : List (List UInt8)) (pt : List ByteArray) (wr : World) : Prop where
  gg : Below w.heap.size w wr
  ft : wr.heap[w.heap.size]? = some (.cells #[.int .i64 0,.int .i64 0] 54 (0,0))
  r1 : wr.ownsRow (w.heap.size + 1) 9 1 v1 ps.length (scells (ps.map toB))
  r2 : wr.ownsRow (w.heap.size + 1) 9 1 v2 pt.length (scells pt)
  dj : ∀ k,some k = v2.ownBlock → some k ≠ v1.ownBlock
section
variable {w wr : World} {v1 v2 : Value} {ps : List (List UInt8)} {pt : List ByteArray}
theorem JS.bel (h : JS w v1 v2 ps pt wr) {w' : World} (hb : Below wr.heap.size wr w') : JS w v1 v2 ps pt w':=by
  obtain ⟨a,b,c,d,e⟩:=h
  exact ⟨bt a hb,blkP b hb,orow_bel c hb,orow_bel d hb,e⟩
theorem JS.lt (h : JS w v1 v2 ps pt wr) : w.heap.size + 1 ≤ wr.heap.size:=(Array.getElem?_eq_some_iff.1 h.ft).1
theorem JS.pushQ (h : JS w v1 v2 ps pt wr) {w' : World} {v' : Value} {x : ByteArray} (ho : w'.ownsRow (w.heap.size + 1) 9 1 v' (pt.length + 1) (scells pt ++ (#[.string x] : Array Value).toList)) (hb : Below (w.heap.size + 1) wr w')
    (hk : ∀ k,k < wr.heap.size → some k ≠ v2.ownBlock → w'.heap[k]? = wr.heap[k]?) (hl : v'.ownBlock = v2.ownBlock ∨ v'.ownBlock = some (wr.heap.size + 1)) : JS w v1 v' ps (pt ++ [x]) w':=by
  have hlt:=h.lt
  obtain ⟨a,b,c,d,e⟩:=h
  refine ⟨a.trans (hb.mono (by omega)),(hb.block _ (by omega)).trans b,?_,?_,?_⟩
  · exact orow_other c fun q hq=>hk q (orow_blk c q hq).2 (fun h'=>e q h' hq.symm)
  · rw [scells_append,List.length_append];exact ho
  · intro k hk1 hk2
    rcases hl with hl | hl
    · exact e k (hk1.trans hl) hk2
    · have:=(orow_blk c k hk2.symm).2
      rw [hl] at hk1
      simp at hk1
      omega
theorem JS.pushP (h : JS w v1 v2 ps pt wr) {w' : World} {v' : Value} {s : List UInt8} (ho : w'.ownsRow (w.heap.size + 1) 9 1 v' (ps.length + 1) (scells (ps.map toB) ++ (#[.string (toB s)] : Array Value).toList)) (hb : Below (w.heap.size + 1) wr w') :
    JS w v' (.slice none 0 0) (ps ++ [s]) [] w':=by
  have hlt:=h.lt
  obtain ⟨a,b,c,d,e⟩:=h
  refine ⟨a.trans (hb.mono (by omega)),(hb.block _ (by omega)).trans b,?_,World.ownsRow_nil _ _ _ _,?_⟩
  · rw [List.map_append,scells_append,List.length_append];exact ho
  · intro k hk;simp [Value.ownBlock] at hk
end
/-- what Join answers. -/
def JoinPost (R : List (List UInt8) × Int × Int) (w : World) (e : Ending) (w' : World) : Prop:=
  Below w.heap.size w w' ∧ ∃ v,e = .returned (.tuple #[v,.agg #[.int .i64 R.2.1,.int .i64 R.2.2]]) ∧ w'.ownsRow w.heap.size 9 1 v R.1.length (scells (R.1.map toB))
set_option maxRecDepth 100000 in
set_option maxHeartbeats 8000000 in
theorem gjoin_any (v : Value) (l : List PG) (w : World) (hrow : Row w v l.length (gcells l)) (hn : l.length ≤ 2000000) (hsm : ∀ p ∈ l,p.la.size ≤ 1073741824 ∧ p.bo.size ≤ 1073741824) :
    Calls Tryz.prog 68 #[v] w (JoinPost (joinG l 0 false [] []) w):=by
  obtain ⟨av,cap,rfl,hc⟩:=hrow
  obtain ⟨R,hR⟩ : ∃ R,R = joinG l 0 false [] []:=⟨_,rfl⟩
  rw [← hR]
  obtain ⟨n,hn'⟩ : ∃ n,n = l.length:=⟨_,rfl⟩
  rw [← hn'] at hn ⊢
  obtain ⟨W,hW⟩ : ∃ W,W = w.alloc (.cells #[.int .i64 0,.int .i64 0] 54):=⟨_,rfl⟩
  have F : W.heap[w.heap.size]? = some (.cells #[.int .i64 0,.int .i64 0] 54 (0,0)):=by rw [hW];exact heap_alloc_new _ _
  have hbW : Below w.heap.size w W:=by rw [hW];exact bal (Below.refl _ _) _
  have J0 : JS w (.slice none 0 0) (.slice none 0 0) [] [] W:=⟨hbW,F,World.ownsRow_nil _ _ _ _,World.ownsRow_nil _ _ _ _,fun k hk=>by simp [Value.ownBlock] at hk⟩
  have HC:=Lib.hid hc
  have HR:=Lib.hid hR
  have HN:=Lib.hid hn'
  have HSM:=Lib.hid hsm
  have HJ0:=Lib.hid J0
  have HBW:=Lib.hid hbW
  clear hc hR hn' hsm J0 hbW
  clear F
  go_enter Tryz.func68,Tryz.ntmps68
  go_wp2_with fail
  rw [← hW]
  clear hW
  go_loopw [4,5,6,14] (fun pv qv ov iv wr=>∃ (i : Nat) (op : Bool) (ps : List (List UInt8)) (pt : List ByteArray),iv = .int .i64 (i : Int) ∧ ov = .bool op ∧ Hid (JS w pv qv ps pt wr) ∧ i ≤ n ∧ ps.length ≤ 255 * i ∧ pt.length ≤ i ∧ Hid ((pt.map bl).flatten.length ≤ 65025 * i) ∧ Hid (joinG (l.drop i) i op ps (pt.map bl).flatten = R)) (fun _ _ _ iv _=>n - (intOf iv).toNat)
  case atStart=>exact ⟨0,false,[],[],rfl,rfl,HJ0,Nat.zero_le _,Nat.zero_le _,Nat.zero_le _,Lib.hid (Nat.zero_le _),Lib.hid (by rw [List.drop_zero];exact HR.out.symm)⟩
  case round=>
    clear HJ0
    obtain ⟨i,op,ps,pt,rfl,rfl,HG,hi,hps,hpt,HPL,HP⟩:=hrel
    by_cases hlt : i < n
    · obtain ⟨p,hp⟩:=at_some l i (by rw [← HN.out];exact hlt)
      obtain ⟨g,o,rfl,d0,d1,d2,d3,d4,d5⟩:=g_at HC.out i p hp
      have d0:=kc HG.out.gg d0
      have d1:=kc HG.out.gg d1
      have d2:=kc HG.out.gg d2
      have d3:=kc HG.out.gg d3
      have d4:=kc HG.out.gg d4
      have d5:=kc HG.out.gg d5
      obtain ⟨s1,s2⟩:=HSM.out p (List.mem_of_getElem? hp)
      have hP:=HP.out
      obtain ⟨hp1,hp2⟩:=List.getElem?_eq_some_iff.1 hp
      rw [List.drop_eq_getElem_cons hp1,hp2,joinG] at hP
      have k1:=fun w=>gcheck_any p w s1 s2
      have k2:=fun w=>bad_any (gcheckM p) 0 w
      have k3:=fun w=>gcont_any p w
      unfold gV at k1
      unfold hV at k3
      have m0 : (0 : Int) ≤ (i : Int):=by omega
      have m1 : (i : Int) < (n : Int):=by omega
      have hw1 : IntKind.i64.wrap ((i : Int) + 1) = (i : Int) + 1:=wi64 _ (by omega) (by omega)
      clear hp1 hp2 HP
      by_cases hck : gcheckM p = 0
      · by_cases hcg : contG p = op
        · rw [if_neg (by rintro (h | h);exact h hck;exact h hcg)] at hP
          rw [hck] at k1 k2
          rw [show (!decide ((0 : Int) = 0)) = false from rfl] at k2
          rw [hcg] at k3
          obtain ⟨t1,t2⟩:=(gcheck_iff p).1 hck
          have hst:=jrel_start (bl p.la) (bl p.bo) ps pt op
          generalize ps ++ (cutG (bl p.la) (bl p.bo) (pt.map bl).flatten).1 = P1 at *
          generalize (cutG (bl p.la) (bl p.bo) (pt.map bl).flatten).2 = part1 at *
          generalize openL op (bl p.la) = op1 at *
          have hLL:=bl_length p.la
          have hcL : (bl p.bo).length = totL (bl p.la):=by rw [bl_length];exact t2
          have hbne : (op != op) = false:=by simp
          have K1:=Lib.hid k1
          have K2:=Lib.hid k2
          have K3:=Lib.hid k3
          have HP2:=Lib.hid hP
          have HST:=Lib.hid hst
          have T2:=Lib.hid t2
          have HLL:=Lib.hid hLL
          have HCL:=Lib.hid hcL
          clear k1 k2 k3 hP hst t2 hLL hcL
          clear hck hcg hp s1 s2
          go_wp2_with (first
            | (go_at_call 37;go_loud (with_reducible refine (K1.out _).mono ?_);go_loud (rintro e1 w1 ⟨rfl,hb1⟩);go_loud (have G1:=(HG.out.bel (bal (Below.refl _ _) (.cells #[.int .u8 p.fl.toNat,.int .u64 p.po,.int .u32 p.se,.int .u32 p.nu,.string p.la,.string p.bo] 27))).bel hb1);go_loud (have B1:=blkP (heap_alloc_new wr (.cells #[.int .u8 p.fl.toNat,.int .u64 p.po,.int .u32 p.se,.int .u32 p.nu,.string p.la,.string p.bo] 27)) hb1))
            | (go_at_call 18;go_loud (refine (K2.out _).mono ?_);go_loud (rintro e2 w2 ⟨rfl,hb2⟩);go_loud (have G2:=G1.bel hb2);go_loud (have B2:=blkP B1 hb2);go_loud (obtain ⟨p0,p1,p2,p3,p4,p5⟩:=gvL B2))
            | (go_at_call 36;go_loud (with_reducible refine (K3.out _).mono ?_);go_loud (rintro e3 w3 ⟨rfl,hb3⟩);go_loud (have G3:=G2.bel hb3);go_loud (have B3:=blkP B2 hb3);go_loud (clear p0 p1 p2 p3 p4 p5);go_loud (obtain ⟨p0,p1,p2,p3,p4,p5⟩:=gvL B3))
            | fail)
          have GB:=Lib.hid G3
          have BB:=Lib.hid B3
          clear G1 G2 G3 B1 B2 B3 hb1 hb2 hb3 p0 p1 p2 p3 p4 p5 d0 d1 d2 d3 d4 d5
          obtain ⟨fl,po,se,nu,S,T⟩:=p
          simp only at t1 K1 K3 HST T2 HLL HCL BB ⊢
          generalize wr.heap.size = P at *
          generalize (fl.toNat : Int) = f at *
          go_loopw [4,5,6,9,10,34] (fun pv qv ov fv tv kv wr=>∃ (k fr tz : Nat) (ps' : List (List UInt8)) (pt' : List ByteArray) (op' : Bool),kv = .int .i64 (k : Int) ∧ fv = .int .i64 (fr : Int) ∧ tv = .int .i64 (tz : Int) ∧ ov = .bool op' ∧ Hid (JS w pv qv ps' pt' wr) ∧ Hid (wr.heap[P]? = some (.cells #[.int .u8 f,.int .u64 po,.int .u32 se,.int .u32 nu,.string S,.string T] 27 (0,0))) ∧ k ≤ S.size ∧ fr ≤ tz ∧ Hid (tz = totL ((bl S).take k)) ∧ ps'.length ≤ 255 * i + k ∧ pt'.length ≤ i ∧ Hid ((pt'.map bl).flatten.length ≤ 65025 * i) ∧ Hid (jrel (bl S) (bl T) k fr tz ps' pt' op' P1 part1 op1)) (fun _ _ _ _ _ kv _=>S.size - (intOf kv).toNat)
          case atStart=>exact ⟨0,0,0,ps,pt,op,rfl,rfl,rfl,rfl,GB,BB,Nat.zero_le _,Nat.le_refl _,Lib.hid rfl,hps,hpt,HPL,HST⟩
          case round=>
            clear GB BB HST
            obtain ⟨k,fr,tz,ps2,pt2,op2,rfl,rfl,rfl,rfl,HG2,HB2,hk,hft,HTZ,hps2,hpt2,HPL2,HJ⟩:=hrel
            obtain ⟨c4,c4'⟩:=live_of HB2.out 4 _ rfl
            obtain ⟨c5,c5'⟩:=live_of HB2.out 5 _ rfl
            have htle:=totL_le ((bl S).take k)
            rw [List.length_take,← HTZ.out] at htle
            by_cases hl2 : k < S.size
            · obtain ⟨c,hc⟩:=at_some (bl S) k (by rw [HLL.out];exact hl2)
              have X : ∀ h,S[k]'h = c:=atB_of S k c hc
              have hst:=totL_take (bl S) k c hc
              rw [← HTZ.out] at hst
              have hcl:=c.toNat_lt
              have hle2 : tz + c.toNat ≤ T.size:=by
                rw [T2.out,← hst]
                conv=>rhs;rw [← List.take_append_drop (k + 1) (bl S),totL_append]
                omega
              have j0 : (0 : Int) ≤ (k : Int):=by omega
              have j1 : (k : Int) < (S.size : Int):=by omega
              have hTs : T.size ≤ 300000000000:=by
                have:=totL_le (bl S)
                rw [T2.out]
                rw [HLL.out] at this
                omega
              have hwr : IntKind.i64.wrap ((tz : Int) + (c.toNat : Int)) = ((tz + c.toNat : Nat) : Int):=by rw [wi64 _ (by omega) (by omega)];omega
              by_cases h255 : c = 255
              · subst h255
                have hj:=jrel_full HJ.out hft hc
                have HJ2:=Lib.hid hj
                have HTZ2 : Hid (tz + 255 = totL ((bl S).take (k + 1))):=Lib.hid hst.symm
                clear hj hst hc htle
                go_wp2_with fail
                exact ⟨⟨k + 1,fr,tz + 255,ps2,pt2,true,by go_num,rfl,by go_num,rfl,HG2,HB2,by omega,by omega,HTZ2,by omega,hpt2,HPL2,HJ2⟩,by simp [intOf];omega⟩
              · have hne : ¬ (c.toNat : Int) = 255:=fun h=>h255 (UInt8.toNat_inj.1 (by show c.toNat = 255;omega))
                have hj:=jrel_end HJ.out hft hc h255
                have HTZ2 : Hid (tz + c.toNat = totL ((bl S).take (k + 1))):=Lib.hid hst.symm
                obtain ⟨tn,htn⟩ : ∃ tn,tn = tz + c.toNat:=⟨_,rfl⟩
                rw [← htn] at hj hwr hle2 HTZ2
                have hx:=bl_ext T fr tn
                have hpush:=partJ_push (bl T) fr tn pt2 (T.extract fr tn) hx
                have hplen : (partJ (bl T) fr tn pt2).length ≤ 140737488355328:=by
                  rw [← hpush,List.map_append,List.flatten_append,List.length_append]
                  have h1:=HPL2.out
                  have h2 : (List.map bl [T.extract fr tn]).flatten.length ≤ T.size:=by
                    rw [List.map_cons,List.map_nil,List.flatten_cons,List.flatten_nil,List.append_nil,hx,List.length_take,List.length_drop,bl_length]
                    omega
                  omega
                have kj : ∀ (u : Value) (w' : World),w'.ownsRow (w.heap.size + 1) 9 1 u (pt2 ++ [T.extract fr tn]).length (scells (pt2 ++ [T.extract fr tn])) → Calls Tryz.prog 30 #[u] w' fun e w''=>e = .returned (.string (toB (partJ (bl T) fr tn pt2))) ∧ Below w'.heap.size w' w'':=by
                  intro u w' ho
                  have:=ojoin_any (w.heap.size + 1) u (pt2 ++ [T.extract fr tn]) w' ho (by simp) (by rw [List.length_append];show pt2.length + 1 ≤ _;omega) (by rw [hpush];exact hplen)
                  rw [hpush] at this
                  exact this
                have i0 : (0 : Int) ≤ (fr : Int):=by omega
                have i1 : (fr : Int) ≤ (tn : Int):=by omega
                have i2 : (tn : Int) ≤ (T.size : Int):=by omega
                have z1 : pt2.length < 70368744177664:=by omega
                have z2 : (pt2.length + 1) * 16 ≤ 140737488355328:=by omega
                have z3 : ps2.length < 70368744177664:=by omega
                have z4 : (ps2.length + 1) * 16 ≤ 140737488355328:=by omega
                have HX:=Lib.hid hx
                have KJ:=Lib.hid kj
                have HJ2:=Lib.hid hj
                have HFT:=Lib.hid hft
                have HTN:=Lib.hid htn
                have HPUSH:=Lib.hid hpush
                clear kj hj hft htn hpush
                clear hst hc htle hplen h255 hx HJ HTZ
                have hq : ((c.toNat : Int) == 255) = false:=by rw [beq_eq_false_iff_ne];exact hne
                have hzl:=HG2.out.lt
                have PT:=HG2.out.r2
                go_wp2_with (first
                  | (at_builtin;first
                      | (go_loud (refine wpList_push1L rfl _ _ 82 9 rfl Tryz.underlying82 (.string ⟨#[]⟩) 1 16 infoStr rfl (by decide) wr (w.heap.size + 1) u5 pt2.length (scells pt2) rfl PT #[.string (T.extract fr tn)] rfl (by simp [Value.oneCell']) rfl z1 z2 hzl ?_);go_loud (intro v6 w6 hown6 hb6 hk6 hl6);go_loud (have G6:=HG2.out.pushQ hown6 hb6 hk6 hl6);go_loud (have B6:=(hk6 P (Array.getElem?_eq_some_iff.1 HB2.out).1 (fun e=>orow_tag PT HB2.out (by decide) e.symm)).trans HB2.out))
                      | (go_loud (refine wpList_push1L rfl _ _ 82 9 rfl Tryz.underlying82 (.string ⟨#[]⟩) 1 16 infoStr rfl (by decide) w7 (w.heap.size + 1) u4 ps2.length (scells (ps2.map toB)) rfl G7.r1 #[.string (toB (partJ (bl T) fr tn pt2))] rfl (by simp [Value.oneCell']) rfl z3 z4 G7.lt ?_);go_loud (intro v8 w8 hown8 hb8 hk8 hl8);go_loud (have G8:=G7.pushP hown8 hb8);go_loud (have B8:=(hk8 P (Array.getElem?_eq_some_iff.1 B7).1 (fun e=>orow_tag G7.r1 B7 (by decide) e.symm)).trans B7)))
                  | (go_at_call 30;go_loud (with_reducible refine (KJ.out _ _ G6.r2).mono ?_);go_loud (rintro e7 w7 ⟨rfl,hb7⟩);go_loud (have G7:=G6.bel hb7);go_loud (have B7:=blkP B6 hb7))
                  | fail)
                exact ⟨⟨k + 1,tn,tn,ps2 ++ [partJ (bl T) fr tn pt2],[],false,by go_num,rfl,rfl,rfl,Lib.hid G8,Lib.hid B8,by omega,Nat.le_refl _,HTZ2,by rw [List.length_append];show ps2.length + 1 ≤ _;omega,Nat.zero_le _,Lib.hid (Nat.zero_le _),HJ2⟩,by simp [intOf];omega⟩
            · obtain ⟨q1,q2,q3⟩:=jrel_done HJ.out (by rw [HLL.out];omega)
              have hkS : k = S.size:=by omega
              have htT : tz = T.size:=by rw [HTZ.out,List.take_of_length_le (by rw [HLL.out];omega),T2.out]
              have hT255 : T.size ≤ 65025:=by
                have:=totL_le (bl S)
                rw [HLL.out,← T2.out] at this
                omega
              have hP2:=HP2.out
              rw [q1,q2,q3] at hP2
              have hpl:=HPL2.out
              have j1 : ¬ (k : Int) < (S.size : Int):=by omega
              have i0 : (0 : Int) ≤ (fr : Int):=by omega
              have i1 : (fr : Int) ≤ (tz : Int):=by omega
              have i2 : (tz : Int) ≤ (T.size : Int):=by omega
              have z1 : pt2.length < 70368744177664:=by omega
              have z2 : (pt2.length + 1) * 16 ≤ 140737488355328:=by omega
              have z5 : ps2.length ≤ 255 * (i + 1):=by omega
              by_cases hlt2 : fr < tz
              · have hx:=bl_ext T fr tz
                have hpush:=partJ_push (bl T) fr tz pt2 (T.extract fr tz) hx
                rw [← hpush] at hP2
                have hpl3 : ((pt2 ++ [T.extract fr tz]).map bl).flatten.length ≤ 65025 * (i + 1):=by
                  rw [List.map_append,List.flatten_append,List.length_append]
                  have h2 : (List.map bl [T.extract fr tz]).flatten.length ≤ T.size:=by
                    rw [List.map_cons,List.map_nil,List.flatten_cons,List.flatten_nil,List.append_nil,hx,List.length_take,List.length_drop,bl_length]
                    omega
                  omega
                have hq : (fr : Int) < (tz : Int):=by omega
                have HPL3:=Lib.hid hpl3
                have HP3:=Lib.hid hP2
                have hzl:=HG2.out.lt
                have PT:=HG2.out.r2
                clear q1 q2 q3 hkS htT hT255 hP2 hpl hpl3 hx hpush hft htle HJ HTZ
                go_wp2_with (first
                  | (at_builtin;go_loud (refine wpList_push1L rfl _ _ 82 9 rfl Tryz.underlying82 (.string ⟨#[]⟩) 1 16 infoStr rfl (by decide) wr (w.heap.size + 1) u5 pt2.length (scells pt2) rfl PT #[.string (T.extract fr tz)] rfl (by simp [Value.oneCell']) rfl z1 z2 hzl ?_);go_loud (intro v6 w6 hown6 hb6 hk6 hl6);go_loud (have G6:=HG2.out.pushQ hown6 hb6 hk6 hl6))
                  | fail)
                exact ⟨⟨i + 1,op2,ps2,pt2 ++ [T.extract fr tz],by go_num,rfl,Lib.hid G6,by omega,z5,by rw [List.length_append];show pt2.length + 1 ≤ _;omega,HPL3,HP3⟩,by simp [intOf];omega⟩
              · have hnone:=partJ_none (bl T) fr tz pt2 hlt2
                rw [← hnone] at hP2
                have hq : ¬ (fr : Int) < (tz : Int):=by omega
                have HPL3 : Hid ((pt2.map bl).flatten.length ≤ 65025 * (i + 1)):=Lib.hid (by omega)
                have HP3:=Lib.hid hP2
                clear q1 q2 q3 hkS htT hT255 hP2 hpl hnone hft htle HJ HTZ
                go_wp2_with fail
                exact ⟨⟨i + 1,op2,ps2,pt2,by go_num,rfl,HG2,by omega,z5,by omega,HPL3,HP3⟩,by simp [intOf];omega⟩
        · rw [if_pos (.inr hcg)] at hP
          have HRR : Hid (R = ([],1,(i : Int))):=Lib.hid hP.symm
          rw [hck] at k1 k2
          rw [show (!decide ((0 : Int) = 0)) = false from rfl] at k2
          have hbne : (contG p == op) = false:=by rw [beq_eq_false_iff_ne];exact hcg
          generalize contG p = cg at *
          have K1:=Lib.hid k1
          have K2:=Lib.hid k2
          have K3:=Lib.hid k3
          clear k1 k2 k3
          clear hck hcg hp s1 s2 hP
          go_wp2_with (first
            | (go_at_call 37;go_loud (with_reducible refine (K1.out _).mono ?_);go_loud (rintro e1 w1 ⟨rfl,hb1⟩);go_loud (have G1:=(HG.out.bel (bal (Below.refl _ _) (.cells #[.int .u8 p.fl.toNat,.int .u64 p.po,.int .u32 p.se,.int .u32 p.nu,.string p.la,.string p.bo] 27))).bel hb1);go_loud (have B1:=blkP (heap_alloc_new wr (.cells #[.int .u8 p.fl.toNat,.int .u64 p.po,.int .u32 p.se,.int .u32 p.nu,.string p.la,.string p.bo] 27)) hb1))
            | (go_at_call 18;go_loud (refine (K2.out _).mono ?_);go_loud (rintro e2 w2 ⟨rfl,hb2⟩);go_loud (have G2:=G1.bel hb2);go_loud (have B2:=blkP B1 hb2);go_loud (obtain ⟨p0,p1,p2,p3,p4,p5⟩:=gvL B2))
            | (go_at_call 36;go_loud (with_reducible refine (K3.out _).mono ?_);go_loud (rintro e3 w3 ⟨rfl,hb3⟩);go_loud (have G3:=G2.bel hb3);go_loud (obtain ⟨q0,q0'⟩:=live_of G3.ft 0 _ rfl);go_loud (obtain ⟨q1,q1'⟩:=live_of G3.ft 1 _ rfl))
            | fail)
          refine bodyPost_ret (v:=.tuple #[.slice none 0 0,.agg #[.int .i64 1,.int .i64 (i : Int)]]) (by simp [results,Tryz.results68,go_sem,q0,q1,q0',q1']) rfl ?_
          rw [HRR.out]
          exact ⟨(G3.gg.setCell (by simp) _).setCell (by simp) _,_,rfl,World.ownsRow_nil _ _ _ _⟩
      · rw [if_pos (.inl hck)] at hP
        have HRR : Hid (R = ([],1,(i : Int))):=Lib.hid hP.symm
        rw [show (!decide (gcheckM p = 0)) = true by simpa using hck] at k2
        generalize gcheckM p = ck at *
        have K1:=Lib.hid k1
        have K2:=Lib.hid k2
        have K3:=Lib.hid k3
        clear k1 k2 k3
        clear hck hp s1 s2 hP
        go_wp2_with (first
          | (go_at_call 37;go_loud (with_reducible refine (K1.out _).mono ?_);go_loud (rintro e1 w1 ⟨rfl,hb1⟩);go_loud (have G1:=(HG.out.bel (bal (Below.refl _ _) (.cells #[.int .u8 p.fl.toNat,.int .u64 p.po,.int .u32 p.se,.int .u32 p.nu,.string p.la,.string p.bo] 27))).bel hb1))
          | (go_at_call 18;go_loud (refine (K2.out _).mono ?_);go_loud (rintro e2 w2 ⟨rfl,hb2⟩);go_loud (have G2:=G1.bel hb2);go_loud (obtain ⟨q0,q0'⟩:=live_of G2.ft 0 _ rfl);go_loud (obtain ⟨q1,q1'⟩:=live_of G2.ft 1 _ rfl))
          | fail)
        refine bodyPost_ret (v:=.tuple #[.slice none 0 0,.agg #[.int .i64 1,.int .i64 (i : Int)]]) (by simp [results,Tryz.results68,go_sem,q0,q1,q0',q1']) rfl ?_
        rw [HRR.out]
        exact ⟨(G2.gg.setCell (by simp) _).setCell (by simp) _,_,rfl,World.ownsRow_nil _ _ _ _⟩
    · have hP:=HP.out
      rw [List.drop_of_length_le (by rw [← HN.out];omega),joinG] at hP
      have hin : i = n:=by omega
      have m1 : ¬ (i : Int) < (n : Int):=by omega
      obtain ⟨q0,q0'⟩:=live_of HG.out.ft 0 _ rfl
      obtain ⟨q1,q1'⟩:=live_of HG.out.ft 1 _ rfl
      cases op with
      | true=>
        rw [if_pos rfl] at hP
        have HRR : Hid (R = ([],1,(n : Int))):=Lib.hid (by rw [← hP,hin])
        clear hP hin
        go_wp2_with fail
        refine bodyPost_ret (v:=.tuple #[.slice none 0 0,.agg #[.int .i64 1,.int .i64 (n : Int)]]) (by simp [results,Tryz.results68,go_sem,q0,q1,q0',q1']) rfl ?_
        rw [HRR.out]
        exact ⟨(HG.out.gg.setCell (by simp) _).setCell (by simp) _,_,rfl,World.ownsRow_nil _ _ _ _⟩
      | false=>
        rw [if_neg (by decide)] at hP
        have HRR : Hid (R = (ps,0,0)):=Lib.hid hP.symm
        have hown:=HG.out.r1
        clear hP hin
        go_wp2_with fail
        refine bodyPost_ret (v:=.tuple #[u4,.agg #[.int .i64 0,.int .i64 0]]) (by simp [results,Tryz.results68,go_sem,q0,q1,q0',q1']) rfl ?_
        rw [HRR.out]
        exact ⟨(HG.out.gg.setCell (by simp) _).setCell (by simp) _,_,rfl,orow_mono (orow_other hown fun q hq=>by
          have:=(orow_blk hown q hq).1
          rw [Below.heap_setCell _ _ _ q (by simp;omega),Below.heap_setCell _ _ _ q (by simp;omega)]) (Nat.le_succ _)⟩
end Go.Proofs.YtnbglcaeekppjaaGreatDoor

namespace Go.Proofs.YtnbglcaeekppjaaGreatDoor
open Go.RowKit
set_option linter.unusedVariables false
set_option linter.unusedSimpArgs false

theorem tail_bad (R : List UInt8 → Int) (s : ByteArray) (p0 : PG) (r : List PG) (at_ : List Nat) (h : (tailM R s p0 r at_).2.1 ≠ 0) : (tailM R s p0 r at_).1 = noOS:=by
  unfold tailM at h ⊢
  split
  · rfl
  · rename_i ps k hk
    rw [hk] at h
    simp only at h ⊢
    split
    · rfl
    · rename_i h1
      rw [if_neg h1] at h
      split
      · rfl
      · rename_i h2
        rw [if_neg h2] at h
        exact absurd rfl h
theorem opar_bad (crc : List UInt8 → Nat) (R : List UInt8 → Int) (s : ByteArray) (h : (oparM crc R s).2.1 ≠ 0) : (oparM crc R s).1 = noOS:=by
  unfold oparM at h ⊢
  split
  · rfl
  · rename_i h1
    rw [if_neg h1] at h
    split
    · rfl
    · rename_i p0 r hl
      rw [hl] at h
      simp only at h
      split
      · rfl
      · rename_i hs
        rw [hs] at h
        simp only at h
        split
        · rfl
        · rename_i h2
          rw [if_neg h2] at h
          exact tail_bad _ _ _ _ _ h
theorem like_utfO (b : Bk) : likeBk b (utfBk b):=by
  refine ⟨rfl,by simp [utfBk],fun k x y hx hy=>?_⟩
  simp only [utfBk,List.getElem?_map,hx,Option.map_some,Option.some.injEq] at hy
  subst hy
  exact ⟨rfl,rfl⟩
/-- streams that are one but for charsets and numbers. -/
def likeOS (a b : OS) : Prop:=a.first = b.first ∧ a.setup = b.setup ∧ likeBk a.b b.b ∧ a.sound.length = b.sound.length ∧ ∀ (k : Nat) (x y : PG),a.sound[k]? = some x → b.sound[k]? = some y → { x with nu:=0 } = { y with nu:=0 }
theorem like_back (s : OS) : likeOS s (backO s):=by
  refine ⟨rfl,rfl,like_utfO _,(renum_len _ _).symm,fun k x y hx hy=>?_⟩
  obtain ⟨q,hq,rfl⟩:=renum_at _ _ _ _ hy
  rw [hx,Option.some.injEq] at hq
  rw [hq]
end Go.Proofs.YtnbglcaeekppjaaGreatDoor

namespace Go.Proofs.YtnbglcaeekppjaaGreatDoor
open Go.RowKit
set_option linter.unusedVariables false
set_option linter.unusedSimpArgs false

def lacesB (xs : List ByteArray) : List UInt8:=xs.flatMap fun p=>laceL p.size
/-- what Pages answers. -/
def PPost (l : List PG) (w : World) (e : Ending) (w' : World) : Prop:=Below w.heap.size w w' ∧ ∃ v,e = .returned v ∧ w'.ownsRow w.heap.size 27 6 v l.length (gcells l)
def laceB (xs : List ByteArray) : List ByteArray:=xs.map fun p=>toB (laceL p.size)
theorem laceB_flat (xs : List ByteArray) : ((laceB xs).map bl).flatten = lacesB xs:=by
  unfold laceB lacesB
  rw [List.map_map,List.flatMap_def]
  congr 1 <;> (apply List.map_congr_left;intro a _;exact bl_toB _)
theorem laceL_len (n : Nat) : (laceL n).length = n / 255 + 1:=by unfold laceL;simp
theorem lacesB_len (N : Nat) : ∀ xs : List ByteArray,(∀ t ∈ xs,t.size ≤ N) → (lacesB xs).length ≤ xs.length * (N / 255 + 1)
  | [],_=>Nat.zero_le _
  | x :: r,h=>by
    have h1:=lacesB_len N r (fun t ht=>h t (by simp [ht]))
    have h2:=h x (by simp)
    have h3 : x.size / 255 ≤ N / 255:=Nat.div_le_div_right h2
    unfold lacesB at h1 ⊢
    rw [List.flatMap_cons,List.length_append,laceL_len,List.length_cons,Nat.add_mul]
    omega
theorem flat_leN (N : Nat) : ∀ xs : List ByteArray,(∀ t ∈ xs,t.size ≤ N) → ((xs.map bl).flatten).length ≤ xs.length * N
  | [],_=>Nat.zero_le _
  | x :: r,h=>by
    have h1:=flat_leN N r (fun t ht=>h t (by simp [ht]))
    have h2:=h x (by simp)
    rw [List.map_cons,List.flatten_cons,List.length_append,bl_length,List.length_cons,Nat.add_mul]
    omega
theorem laces_totB : ∀ xs : List ByteArray,((xs.map bl).flatten).length = totL (lacesB xs)
  | []=>rfl
  | x :: r=>by
    have h:=laces_totB r
    unfold lacesB at h ⊢
    rw [List.map_cons,List.flatten_cons,List.length_append,List.flatMap_cons,totL_append,lace_tot,bl_length,h]
theorem openL_ne {op : Bool} {l : List UInt8} (h : l ≠ []) : openL op l = openL false l:=by
  unfold openL
  cases hg : l.getLast? with
  | none=>exact absurd (List.getLast?_eq_none_iff.1 hg) h
  | some c=>rfl
theorem pagesO_nil (se f nu : Nat) (bo : List UInt8) (op : Bool) : pagesO se f nu [] bo op = []:=by cases f <;> simp [pagesO]
set_option maxRecDepth 100000 in
set_option maxHeartbeats 8000000 in
theorem ppages_any (se nu0 : Nat) (xs : List ByteArray) (B : Nat) (v : Value) (w : World) (hown : w.ownsRow B 9 1 v xs.length (scells xs)) (hne : xs ≠ []) (hn : xs.length ≤ 100) (hs : ∀ t ∈ xs,t.size ≤ 8388608) (hse : se < 4294967296) (hnu : nu0 ≤ 1000) :
    Calls Tryz.prog 32 #[.agg #[.int .u8 0,.int .u64 0,.int .u32 se,.int .u32 nu0],v] w (PPost (pagesO se (lacesB xs).length nu0 (lacesB xs) (xs.map bl).flatten false) w):=by
  obtain ⟨R,hR⟩ : ∃ R,R = pagesO se (lacesB xs).length nu0 (lacesB xs) (xs.map bl).flatten false:=⟨_,rfl⟩
  rw [← hR]
  obtain ⟨av,cap,rfl⟩:=orow_form hown
  obtain ⟨av',cap',hvv,hc⟩:=row_owns hown
  simp only [Value.slice.injEq] at hvv
  obtain ⟨rfl,_,rfl⟩:=hvv
  obtain ⟨n,hn'⟩ : ∃ n,n = xs.length:=⟨_,rfl⟩
  have n1 : 1 ≤ n:=by
    have:=List.length_pos_iff.2 hne
    omega
  have hlen1:=lacesB_len 8388608 xs hs
  have hlen2:=flat_leN 8388608 xs hs
  have htot:=laces_totB xs
  rw [← hn'] at hown hn hlen1 hlen2 ⊢
  have kl:=fun (t : ByteArray) (h : t.size ≤ 8388608) w=>glace_any t.size w (by omega)
  have kj1 : ∀ (C : Nat) (u : Value) (w : World),w.ownsRow C 9 1 u n (scells (laceB xs)) → Calls Tryz.prog 30 #[u] w fun e w'=>e = .returned (.string (toB (lacesB xs))) ∧ Below w.heap.size w w':=by
    intro C u w h
    have:=ojoin_any C u (laceB xs) w (by unfold laceB at h ⊢;rw [List.length_map,← hn'];exact h) (by unfold laceB;simpa using hne) (by unfold laceB;rw [List.length_map];omega) (by rw [laceB_flat];omega)
    rw [laceB_flat] at this
    exact this
  have kj2 : ∀ w',Below w.heap.size w w' → Calls Tryz.prog 30 #[.slice av n cap] w' fun e w''=>e = .returned (.string (toB (xs.map bl).flatten)) ∧ Below w'.heap.size w' w'':=by
    intro w' hb
    exact ojoin_any B _ xs w' (by rw [← hn'];exact orow_bel hown hb) hne (by omega) (by omega)
  obtain ⟨i0,hi,hz0,hz1,hz2⟩:=info_parts infoStr
  obtain ⟨W,hW⟩ : ∃ W,W = w.alloc (.cells #[.int .u8 0,.int .u64 0,.int .u32 se,.int .u32 nu0] 25):=⟨_,rfl⟩
  have hbW : Below w.heap.size w W:=by rw [hW];exact bal (Below.refl _ _) _
  have HB : W.heap[w.heap.size]? = some (.cells #[.int .u8 0,.int .u64 0,.int .u32 se,.int .u32 nu0] 25 (0,0)):=by rw [hW];exact heap_alloc_new _ _
  have hcc : ((laceB xs).take n) = laceB xs:=List.take_of_length_le (by unfold laceB;rw [List.length_map];omega)
  have HC:=Lib.hid hc
  have HR:=Lib.hid hR
  have HN:=Lib.hid hn'
  have HSS:=Lib.hid hs
  have KL:=Lib.hid kl
  have KJ1:=Lib.hid kj1
  have KJ2:=Lib.hid kj2
  have HBW:=Lib.hid hbW
  have HHB:=Lib.hid HB
  have HCC:=Lib.hid hcc
  have HL1:=Lib.hid hlen1
  have HL2:=Lib.hid hlen2
  have HTOT:=Lib.hid htot
  have HOWN:=Lib.hid hown
  clear hc hR hn' hs kl kj1 kj2 hbW HB hcc hlen1 hlen2 htot hown
  clear hne
  go_enter Tryz.func32,Tryz.ntmps32
  go_upto_region 1 with fail
  rw [← hW]
  clear hW
  go_wp2_with (refine wpList_make_own _ rfl _ _ 82 rfl W.heap.size 9 i0 (.string ⟨#[]⟩) 1 Tryz.underlying82 hi hz0 hz1 .i64 .i64 (n : Int) n rfl rfl rfl (by rw [hz2];omega) (by unfold maxLen;omega) (Nat.le_refl _) ?_;intro W2 hown2 hgrow2)
  have hb2 : Below W.heap.size W W2:=(Below.refl _ _).grown hgrow2 (Nat.le_refl _) (fun k hk=>by cases hk)
  have HO2:=Lib.hid hown2
  have HB2:=Lib.hid hb2
  clear hown2 hgrow2 hi hz0 hz1 hz2
  go_loopw [5,20] (fun pv kv wr=>∃ k : Nat,kv = .int .i64 (k : Int) ∧ k ≤ n ∧ Hid (wr.ownsRow W.heap.size 9 1 pv k (scells ((laceB xs).take k))) ∧ Hid (Below W.heap.size W wr)) (fun _ kv _=>n - (intOf kv).toNat)
  case atStart=>exact ⟨0,rfl,Nat.zero_le _,HO2,HB2⟩
  case round=>
    clear HO2
    obtain ⟨k,rfl,hk,HO,HBE⟩:=hrel
    by_cases hlt : k < n
    · obtain ⟨t,ht⟩:=at_some xs k (by rw [← HN.out];exact hlt)
      obtain ⟨gx,ox,rfl,d0⟩:=HC.out k _ (scells_at xs k t ht)
      replace d0:=kc HBE.out (kc HBW.out d0)
      have hts:=HSS.out t (List.mem_of_getElem? ht)
      have hlx : (laceB xs)[k]? = some (toB (laceL t.size)):=by unfold laceB;rw [List.getElem?_map,ht];rfl
      have hstep : scells ((laceB xs).take (k + 1)) = scells ((laceB xs).take k) ++ (#[.string (toB (laceL t.size))] : Array Value).toList:=by
        rw [List.take_add_one,hlx,scells_append]
        rfl
      have HST:=Lib.hid hstep
      have kl:=fun w=>KL.out t hts w
      have KL1:=Lib.hid kl
      have m0 : (0 : Int) ≤ (k : Int):=by omega
      have m1 : (k : Int) < (n : Int):=by omega
      have z1 : k < 70368744177664:=by omega
      have z2 : (k + 1) * 16 ≤ 140737488355328:=by omega
      clear hstep hlx ht kl
      go_wp2_with (first
        | (go_at_call 64;go_loud (with_reducible refine (KL1.out _).mono ?_);go_loud (rintro e5 w5 ⟨rfl,hb5⟩);go_loud (have ho5:=orow_bel HO.out hb5);go_loud (have hz5:=Nat.le_trans HBE.out.size hb5.size);go_loud (have hbe5:=bt HBE.out hb5))
        | (at_builtin;go_loud (refine wpList_push1 rfl _ _ 82 9 rfl Tryz.underlying82 (.string ⟨#[]⟩) 1 16 infoStr rfl (by decide) w5 W.heap.size u5 k (scells ((laceB xs).take k)) rfl ho5 #[.string (toB (laceL t.size))] rfl (by simp [Value.oneCell']) rfl z1 z2 hz5 ?_);go_loud (intro v6 w6 hown6 hb6 hk6);go_loud (rw [← HST.out] at hown6))
        | fail)
      have HO6:=Lib.hid hown6
      have HB6:=Lib.hid (hbe5.trans hb6)
      go_roundw
      case rel=>exact ⟨k + 1,by go_num,by omega,HO6,HB6⟩
      case measure=>simp [intOf];omega
    · have hkn : k = n:=by omega
      have ho:=HO.out
      rw [hkn,HCC.out] at ho
      have m1 : ¬ (k : Int) < (n : Int):=by omega
      have hbz:=HBE.out
      obtain ⟨S0,hS0⟩ : ∃ S0,S0 = toB (lacesB xs):=⟨_,rfl⟩
      obtain ⟨T0,hT0⟩ : ∃ T0,T0 = toB (xs.map bl).flatten:=⟨_,rfl⟩
      have hbS : bl S0 = lacesB xs:=by rw [hS0,bl_toB]
      have hbT : bl T0 = (xs.map bl).flatten:=by rw [hT0,bl_toB]
      have hzS : S0.size = (lacesB xs).length:=by rw [← hbS,bl_length]
      have hzT : T0.size = totL (bl S0):=by rw [← bl_length,hbT,hbS,HTOT.out]
      have hR2:=HR.out
      rw [← hbS,← hbT] at hR2
      rw [bl_length] at hR2
      have hmax : S0.size ≤ 4000000:=by have:=HL1.out;rw [hzS];omega
      have kj1:=fun C u w h=>KJ1.out C u w h
      rw [← hS0] at kj1
      have kj2:=fun w' h=>KJ2.out w' h
      rw [← hT0] at kj2
      have KJA:=Lib.hid kj1
      have KJB:=Lib.hid kj2
      have HZT:=Lib.hid hzT
      have HR2:=Lib.hid hR2
      have HO3:=Lib.hid ho
      have HBZ3:=Lib.hid hbz
      clear kj1 kj2 hzT hR2 ho hbz
      clear hS0 hT0 hbS hbT hzS hkn hk
      go_wp2_with (first
        | (go_at_call 30;go_loud (with_reducible refine (KJA.out _ _ _ HO3.out).mono ?_);go_loud (rintro e7 w7 ⟨rfl,hb7⟩))
        | (go_at_call 30;go_loud (with_reducible refine (KJB.out _ (bt HBW.out (bt HBZ3.out hb7))).mono ?_);go_loud (rintro e8 w8 ⟨rfl,hb8⟩))
        | fail)
      have hb9:=bt (bt HBZ3.out hb7) hb8
      have HB9:=Lib.hid hb9
      clear hb7 hb8 hb9 HO3 HBZ3 HO HBE
      go_loopw [8,9,10,11] (fun Sv Tv lv ov wr=>∃ (f : Nat) (S T : ByteArray) (op : Bool) (D : List PG),Sv = .string S ∧ Tv = .string T ∧ ov = .bool op ∧ Hid (wr.ownsRow W.heap.size 27 6 lv D.length (gcells D)) ∧ Hid (Below W.heap.size W wr) ∧ Hid (D ++ pagesO se f (nu0 + D.length) (bl S) (bl T) op = R) ∧ S.size ≤ f ∧ Hid (T.size = totL (bl S)) ∧ D.length + S.size ≤ 4000000) (fun Sv _ _ _ _=>match Sv with | .string S=>S.size | _=>0)
      case atStart=>exact ⟨S0.size,S0,T0,false,[],rfl,rfl,rfl,Lib.hid (World.ownsRow_nil _ _ _ _),HB9,Lib.hid (by rw [List.nil_append];exact HR2.out.symm),Nat.le_refl _,HZT,by rw [List.length_nil];omega⟩
      case round=>
        clear HB9 HR2 HZT
        obtain ⟨f,S,T,op,D,rfl,rfl,rfl,HO,HBE,HP,hf,HZ,hD⟩:=hrel
        by_cases h0 : S.size = 0
        · have hnil : bl S = []:=List.eq_nil_of_length_eq_zero (by rw [bl_length];exact h0)
          have hP:=HP.out
          rw [hnil,pagesO_nil,List.append_nil] at hP
          have HPP:=Lib.hid hP
          have q1 : ¬ 0 < S.size:=by omega
          have q2 : ¬ (0 : Int) < (S.size : Int):=by omega
          have ho:=HO.out
          have HO4:=Lib.hid ho
          clear hP hnil h0 HP HO ho
          go_wp2_with fail
          go_ret
          rw [← HPP.out]
          exact ⟨HBW.out.trans (HBE.out.mono HBW.out.size),_,rfl,orow_mono HO4.out HBW.out.size⟩
        · obtain ⟨f,rfl⟩ : ∃ f',f = f' + 1:=⟨f - 1,by omega⟩
          have hne : bl S ≠ []:=fun e=>h0 (by rw [← bl_length,e];rfl)
          have hP:=HP.out
          rw [pagesO,if_neg hne] at hP
          obtain ⟨m,hm⟩ : ∃ m,m = min S.size 255:=⟨_,rfl⟩
          have hS1 : bl (S.extract 0 m) = (bl S).take 255:=by
            rw [bl_ext,List.drop_zero,Nat.sub_zero]
            by_cases h : S.size ≤ 255
            · rw [List.take_of_length_le (by rw [bl_length];omega),List.take_of_length_le (by rw [bl_length];omega)]
            · rw [show m = 255 by omega]
          have hS2 : bl (S.extract m S.size) = (bl S).drop 255:=by
            rw [bl_ext,List.take_of_length_le (by rw [List.length_drop,bl_length];omega)]
            by_cases h : S.size ≤ 255
            · rw [List.drop_of_length_le (by rw [bl_length];omega),List.drop_of_length_le (by rw [bl_length];omega)]
            · rw [show m = 255 by omega]
          have hsz:=totL_append ((bl S).take 255) ((bl S).drop 255)
          rw [List.take_append_drop,← HZ.out] at hsz
          obtain ⟨sz,hsz0⟩ : ∃ sz,sz = totL ((bl S).take 255):=⟨_,rfl⟩
          have hT1 : bl (T.extract 0 sz) = (bl T).take sz:=by rw [bl_ext,List.drop_zero,Nat.sub_zero]
          have hT2 : bl (T.extract sz T.size) = (bl T).drop sz:=by rw [bl_ext,List.take_of_length_le (by rw [List.length_drop,bl_length];omega)]
          have hZ2 : (T.extract sz T.size).size = totL (bl (S.extract m S.size)):=by rw [← bl_length,hT2,hS2,List.length_drop,bl_length];omega
          have hs2 : (S.extract m S.size).size = S.size - m:=by rw [← bl_length,hS2,List.length_drop,bl_length];omega
          have hs1 : (S.extract 0 m).size = m:=by rw [← bl_length,hS1,List.length_take,bl_length];omega
          have kc1 : ∀ w,Calls Tryz.prog 65 #[.string (S.extract 0 m)] w fun e w'=>e = .returned (.int .i64 sz) ∧ w = w':=fun w=>by
            have:=gcount_any (S.extract 0 m) w (by omega)
            rw [hS1,← hsz0] at this
            exact this
          have ke1:=fun w=>gends_any (S.extract 0 m) w (by omega)
          rw [hS1] at ke1
          have m1 : (0 : Int) ≤ (m : Int):=by omega
          have m2 : (m : Int) ≤ (S.size : Int):=by omega
          have m3 : (0 : Int) ≤ (sz : Int):=by omega
          have m4 : (sz : Int) ≤ (T.size : Int):=by omega
          have m5 : (0 : Int) < (S.size : Int):=by omega
          have m6 : 0 < S.size:=by omega
          have hb0:=kc HBE.out (live_of HHB.out 0 _ rfl).1
          have hb1:=kc HBE.out (live_of HHB.out 1 _ rfl).1
          have hb2:=kc HBE.out (live_of HHB.out 2 _ rfl).1
          have hb3:=kc HBE.out (live_of HHB.out 3 _ rfl).1
          have hmin : min (S.size : Int) 255 = (m : Int):=by omega
          have hmn : (m : Int).toNat = m:=rfl
          have hnuw : IntKind.u32.wrap ((nu0 : Int) + (D.length : Int)) = ((nu0 + D.length : Nat) : Int):=by rw [IntKind.wrap_u32];omega
          have hDw : IntKind.u32.wrap (D.length : Int) = (D.length : Int):=by rw [IntKind.wrap_u32];omega
          have hnm : (nu0 + D.length) % 4294967296 = nu0 + D.length:=Nat.mod_eq_of_lt (by omega)
          have ho1 : openL false (bl (S.extract 0 m)) = openL op ((bl S).take 255):=by
            rw [hS1]
            exact (openL_ne (by
              intro e
              have:=congrArg List.length e
              rw [List.length_take,bl_length] at this
              rw [List.length_nil] at this
              omega)).symm
          have hP1 : (D ++ [pageO se (nu0 + D.length) ((bl S).take 255) ((bl T).take sz) op]) ++ pagesO se f (nu0 + (D.length + 1)) (bl (S.extract m S.size)) (bl (T.extract sz T.size)) (openL false (bl (S.extract 0 m))) = R:=by
            rw [ho1,hS2,hT2,List.append_assoc,← Nat.add_assoc]
            rw [← hsz0] at hP
            exact hP
          have hx : (⟨((bl S).take 255).toArray⟩ : ByteArray) = S.extract 0 m:=by rw [← hS1]
          have hy : (⟨((bl T).take sz).toArray⟩ : ByteArray) = T.extract 0 sz:=by rw [← hT1]
          unfold pageO at hP1
          rw [hx,hy,hnm] at hP1
          obtain ⟨nu,hnu2⟩ : ∃ nu,nu = nu0 + D.length:=⟨_,rfl⟩
          rw [← hnu2] at hP1
          have hcast : ((nu : Nat) : Int) = (nu0 : Int) + (D.length : Int):=by omega
          have HCA:=Lib.hid hcast
          rw [show ((bl S).take 255) = bl (S.extract 0 m) from hS1.symm] at hP1 ke1
          have kop : ∀ (fl : UInt8) (po : Nat) (w : World),Calls Tryz.prog 67 #[.agg #[.int .u8 fl.toNat,.int .u64 po,.int .u32 se,.int .u32 ((nu0 : Int) + (D.length : Int)),.string (S.extract 0 m),.string (T.extract 0 sz)]] w fun e w'=>e = .returned (.bool (openL false (bl (S.extract 0 m)))) ∧ Below w.heap.size w w':=fun fl po w=>by
            have:=gopen_any ⟨fl,po,se,nu,S.extract 0 m,T.extract 0 sz⟩ w (by show (S.extract 0 m).size ≤ _;rw [hs1];omega)
            unfold gV at this
            simp only at this
            rw [hcast] at this
            exact this
          have hDz : D.length + 1 + (S.extract m S.size).size ≤ 4000000:=by rw [hs2];omega
          have hfz : (S.extract m S.size).size ≤ f:=by rw [hs2];omega
          have hmz : (S.extract m S.size).size < S.size:=by rw [hs2];omega
          have z1 : D.length < 70368744177664:=by omega
          have z2 : (D.length + 1) * 56 ≤ 140737488355328:=by omega
          generalize openL false (bl (S.extract 0 m)) = op1 at *
          have hmin : min (S.size : Int) 255 = (m : Int):=by omega
          have hnuw : IntKind.u32.wrap ((nu0 : Int) + (D.length : Int)) = (nu0 : Int) + (D.length : Int):=by rw [IntKind.wrap_u32];omega
          have hban : bits BinOp.andNot IntKind.u8 0 1 = 0:=by decide
          have hDw : IntKind.u32.wrap (D.length : Int) = (D.length : Int):=by rw [IntKind.wrap_u32];omega
          have n1 : ¬ w.heap.size = wr.heap.size:=by have:=cell_lt hb0;omega
          have n2 : ¬ wr.heap.size = w.heap.size:=fun e=>n1 e.symm
          have hba:=bal (Below.refl wr.heap.size wr) (.cells #[.int .u8 0,.int .u64 0,.int .u32 0,.int .u32 0,.string ⟨#[]⟩,.string ⟨#[]⟩] 27)
          have hc0:=kc hba hb0
          have hc1:=kc hba hb1
          have hc2:=kc hba hb2
          have hc3:=kc hba hb3
          have HP1:=Lib.hid hP1
          have HFZ:=Lib.hid hfz
          have HMZ:=Lib.hid hmz
          have HDZ:=Lib.hid hDz
          have KC1:=Lib.hid kc1
          have KE1:=Lib.hid ke1
          have HZ2:=Lib.hid hZ2
          have KOP:=Lib.hid kop
          clear kc1 ke1 hZ2 kop
          clear hcast hnu2 hne h0 hba hS1 hS2 hT1 hT2 hs2 hs1 hsz0 hP hsz hm hx hy hnm ho1 hP1 hfz hmz hDz HP HZ
          obtain ⟨av2,cv2,hu10⟩:=orow_form HO.out
          subst hu10
          obtain ⟨WP,hWP⟩ : ∃ WP,WP = ((wr.alloc (.cells #[.int .u8 0,.int .u64 0,.int .u32 se,.int .u32 nu0,.string (S.extract 0 m),.string (T.extract 0 sz)] 27)).drew).drew:=⟨_,rfl⟩
          have hbP : Below wr.heap.size wr WP:=by rw [hWP];exact (bal (Below.refl _ _) _).drew.drew
          have BP : WP.heap[wr.heap.size]? = some (.cells #[.int .u8 0,.int .u64 0,.int .u32 se,.int .u32 nu0,.string (S.extract 0 m),.string (T.extract 0 sz)] 27 (0,0)):=by rw [hWP];exact heap_alloc_new _ _
          obtain ⟨v0,v0'⟩:=live_of BP 0 _ rfl
          obtain ⟨v1,v1'⟩:=live_of BP 1 _ rfl
          obtain ⟨v2,v2'⟩:=live_of BP 2 _ rfl
          obtain ⟨v3,v3'⟩:=live_of BP 3 _ rfl
          obtain ⟨v4,v4'⟩:=live_of BP 4 _ rfl
          obtain ⟨v5,v5'⟩:=live_of BP 5 _ rfl
          have HBP:=Lib.hid BP
          have HbP:=Lib.hid hbP
          clear BP hbP
          have w0:=kc HbP.out hb0
          have w3:=kc HbP.out hb3
          cases op with
          | true=>
            cases hal : (bl (S.extract 0 m)).all (· == 255) with
            | true=>
              have ke2:=KE1.out
              rw [hal] at ke2
              have hp2:=HP1.out
              rw [hal] at hp2
              simp only [if_true,Bool.not_true,Bool.not_false,Bool.false_eq_true,if_false] at ke2 hp2
              clear KE1 HP1 hal
              have KE1:=Lib.hid ke2
              have HP1:=Lib.hid hp2
              clear ke2 hp2
              obtain ⟨WS,hWS⟩ : ∃ WS,WS = (((WP.setCell ⟨wr.heap.size,3,none⟩ (.int .u32 ((nu0 : Int) + (D.length : Int)))).setCell ⟨wr.heap.size,0,none⟩ (.int .u8 1)).setCell ⟨wr.heap.size,1,none⟩ (.int .u64 18446744073709551615)):=⟨_,rfl⟩
              have BS : WS.heap[wr.heap.size]? = some (.cells #[.int .u8 1,.int .u64 18446744073709551615,.int .u32 se,.int .u32 ((nu0 : Int) + (D.length : Int)),.string (S.extract 0 m),.string (T.extract 0 sz)] 27 (0,0)):=by
                have s1:=Go.Lib.heap_setCell_same (i:=3) HBP.out (.int .u32 ((nu0 : Int) + (D.length : Int)))
                have s2:=Go.Lib.heap_setCell_same (i:=0) s1 (.int .u8 1)
                have s3:=Go.Lib.heap_setCell_same (i:=1) s2 (.int .u64 18446744073709551615)
                rw [hWS,s3]
                simp
              have hbS : Below wr.heap.size wr WS:=by
                rw [hWS]
                iterate 3 refine Below.setCell ?_ (by simp) _
                exact HbP.out
              have HWS:=Lib.hid hWS
              have HBS:=Lib.hid BS
              have HbS:=Lib.hid hbS
              clear hWS BS hbS
              have kop : ∀ (w : World),Calls Tryz.prog 67 #[.agg #[.int .u8 1,.int .u64 18446744073709551615,.int .u32 se,.int .u32 ((nu0 : Int) + (D.length : Int)),.string (S.extract 0 m),.string (T.extract 0 sz)]] w fun e w'=>e = .returned (.bool op1) ∧ Below w.heap.size w w':=KOP.out 1 18446744073709551615
              have KOP1:=Lib.hid kop
              clear kop KOP
              go_upto_region 13 with fail
              go_region
              go_upto_region 16 with (go_at_call 65;go_loud (with_reducible refine (KC1.out _).mono ?_);go_loud (rintro e2 w2 ⟨rfl,rfl⟩))
              go_region
              rw [← hWP]
              clear hWP
              go_wp2_with (first
                | (go_at_call 66;go_loud (with_reducible refine (KE1.out _).mono ?_);go_loud (rintro e4 w4 ⟨rfl,rfl⟩))
                | (go_at_call 67;go_loud (rw [← HWS.out]);go_loud (with_reducible refine (KOP1.out _).mono ?_);go_loud (rintro e5 w5 ⟨rfl,hb5⟩);go_loud (have B5:=blkP HBS.out hb5);go_loud (obtain ⟨y0,y1,y2,y3,y4,y5⟩:=gvL B5);go_loud (have hbx:=bt HbS.out hb5);go_loud (have ho5:=orow_bel HO.out hbx);go_loud (have hbw:=bt HBE.out hbx))
                | (at_builtin;go_loud (refine wpList_push1 rfl _ _ 34 27 rfl Tryz.underlying34 (.agg #[.int .u8 0,.int .u64 0,.int .u32 0,.int .u32 0,.string ⟨#[]⟩,.string ⟨#[]⟩]) 6 56 infoPage rfl (by decide) w5 W.heap.size (.slice av2 D.length cv2) D.length (gcells D) rfl ho5 #[.int .u8 1,.int .u64 18446744073709551615,.int .u32 se,.int .u32 ((nu0 : Int) + (D.length : Int)),.string (S.extract 0 m),.string (T.extract 0 sz)] rfl (by simp [Value.oneCell']) rfl z1 z2 hbw.size ?_);go_loud (intro v6 w6 hown6 hb6 hk6))
                | fail)
              have HO6 : Hid (w6.ownsRow W.heap.size 27 6 v6 (D ++ [(⟨1,18446744073709551615,se,nu,S.extract 0 m,T.extract 0 sz⟩ : PG)]).length (gcells (D ++ [(⟨1,18446744073709551615,se,nu,S.extract 0 m,T.extract 0 sz⟩ : PG)]))):=Lib.hid (by rw [gcells_snoc,List.length_append];simp only;rw [HCA.out];exact hown6)
              exact ⟨⟨f,_,_,op1,_,rfl,rfl,rfl,HO6,Lib.hid (hbw.trans hb6),Lib.hid (by rw [List.length_append];exact HP1.out),HFZ.out,HZ2,by rw [List.length_append];exact HDZ.out⟩,HMZ.out⟩
            | false=>
              have ke2:=KE1.out
              rw [hal] at ke2
              have hp2:=HP1.out
              rw [hal] at hp2
              simp only [if_true,Bool.not_true,Bool.not_false,Bool.false_eq_true,if_false] at ke2 hp2
              clear KE1 HP1 hal
              have KE1:=Lib.hid ke2
              have HP1:=Lib.hid hp2
              clear ke2 hp2
              obtain ⟨WS,hWS⟩ : ∃ WS,WS = ((WP.setCell ⟨wr.heap.size,3,none⟩ (.int .u32 ((nu0 : Int) + (D.length : Int)))).setCell ⟨wr.heap.size,0,none⟩ (.int .u8 1)):=⟨_,rfl⟩
              have BS : WS.heap[wr.heap.size]? = some (.cells #[.int .u8 1,.int .u64 0,.int .u32 se,.int .u32 ((nu0 : Int) + (D.length : Int)),.string (S.extract 0 m),.string (T.extract 0 sz)] 27 (0,0)):=by
                have s1:=Go.Lib.heap_setCell_same (i:=3) HBP.out (.int .u32 ((nu0 : Int) + (D.length : Int)))
                have s2:=Go.Lib.heap_setCell_same (i:=0) s1 (.int .u8 1)
                rw [hWS,s2]
                simp
              have hbS : Below wr.heap.size wr WS:=by
                rw [hWS]
                iterate 2 refine Below.setCell ?_ (by simp) _
                exact HbP.out
              have HWS:=Lib.hid hWS
              have HBS:=Lib.hid BS
              have HbS:=Lib.hid hbS
              clear hWS BS hbS
              have kop : ∀ (w : World),Calls Tryz.prog 67 #[.agg #[.int .u8 1,.int .u64 0,.int .u32 se,.int .u32 ((nu0 : Int) + (D.length : Int)),.string (S.extract 0 m),.string (T.extract 0 sz)]] w fun e w'=>e = .returned (.bool op1) ∧ Below w.heap.size w w':=KOP.out 1 0
              have KOP1:=Lib.hid kop
              clear kop KOP
              go_upto_region 13 with fail
              go_region
              go_upto_region 16 with (go_at_call 65;go_loud (with_reducible refine (KC1.out _).mono ?_);go_loud (rintro e2 w2 ⟨rfl,rfl⟩))
              go_region
              rw [← hWP]
              clear hWP
              go_wp2_with (first
                | (go_at_call 66;go_loud (with_reducible refine (KE1.out _).mono ?_);go_loud (rintro e4 w4 ⟨rfl,rfl⟩))
                | (go_at_call 67;go_loud (rw [← HWS.out]);go_loud (with_reducible refine (KOP1.out _).mono ?_);go_loud (rintro e5 w5 ⟨rfl,hb5⟩);go_loud (have B5:=blkP HBS.out hb5);go_loud (obtain ⟨y0,y1,y2,y3,y4,y5⟩:=gvL B5);go_loud (have hbx:=bt HbS.out hb5);go_loud (have ho5:=orow_bel HO.out hbx);go_loud (have hbw:=bt HBE.out hbx))
                | (at_builtin;go_loud (refine wpList_push1 rfl _ _ 34 27 rfl Tryz.underlying34 (.agg #[.int .u8 0,.int .u64 0,.int .u32 0,.int .u32 0,.string ⟨#[]⟩,.string ⟨#[]⟩]) 6 56 infoPage rfl (by decide) w5 W.heap.size (.slice av2 D.length cv2) D.length (gcells D) rfl ho5 #[.int .u8 1,.int .u64 0,.int .u32 se,.int .u32 ((nu0 : Int) + (D.length : Int)),.string (S.extract 0 m),.string (T.extract 0 sz)] rfl (by simp [Value.oneCell']) rfl z1 z2 hbw.size ?_);go_loud (intro v6 w6 hown6 hb6 hk6))
                | fail)
              have HO6 : Hid (w6.ownsRow W.heap.size 27 6 v6 (D ++ [(⟨1,0,se,nu,S.extract 0 m,T.extract 0 sz⟩ : PG)]).length (gcells (D ++ [(⟨1,0,se,nu,S.extract 0 m,T.extract 0 sz⟩ : PG)]))):=Lib.hid (by rw [gcells_snoc,List.length_append];simp only;rw [HCA.out];exact hown6)
              exact ⟨⟨f,_,_,op1,_,rfl,rfl,rfl,HO6,Lib.hid (hbw.trans hb6),Lib.hid (by rw [List.length_append];exact HP1.out),HFZ.out,HZ2,by rw [List.length_append];exact HDZ.out⟩,HMZ.out⟩
          | false=>
            cases hal : (bl (S.extract 0 m)).all (· == 255) with
            | true=>
              have ke2:=KE1.out
              rw [hal] at ke2
              have hp2:=HP1.out
              rw [hal] at hp2
              simp only [if_true,Bool.not_true,Bool.not_false,Bool.false_eq_true,if_false] at ke2 hp2
              clear KE1 HP1 hal
              have KE1:=Lib.hid ke2
              have HP1:=Lib.hid hp2
              clear ke2 hp2
              obtain ⟨WS,hWS⟩ : ∃ WS,WS = (((WP.setCell ⟨wr.heap.size,3,none⟩ (.int .u32 ((nu0 : Int) + (D.length : Int)))).setCell ⟨wr.heap.size,0,none⟩ (.int .u8 0)).setCell ⟨wr.heap.size,1,none⟩ (.int .u64 18446744073709551615)):=⟨_,rfl⟩
              have BS : WS.heap[wr.heap.size]? = some (.cells #[.int .u8 0,.int .u64 18446744073709551615,.int .u32 se,.int .u32 ((nu0 : Int) + (D.length : Int)),.string (S.extract 0 m),.string (T.extract 0 sz)] 27 (0,0)):=by
                have s1:=Go.Lib.heap_setCell_same (i:=3) HBP.out (.int .u32 ((nu0 : Int) + (D.length : Int)))
                have s2:=Go.Lib.heap_setCell_same (i:=0) s1 (.int .u8 0)
                have s3:=Go.Lib.heap_setCell_same (i:=1) s2 (.int .u64 18446744073709551615)
                rw [hWS,s3]
                simp
              have hbS : Below wr.heap.size wr WS:=by
                rw [hWS]
                iterate 3 refine Below.setCell ?_ (by simp) _
                exact HbP.out
              have HWS:=Lib.hid hWS
              have HBS:=Lib.hid BS
              have HbS:=Lib.hid hbS
              clear hWS BS hbS
              have kop : ∀ (w : World),Calls Tryz.prog 67 #[.agg #[.int .u8 0,.int .u64 18446744073709551615,.int .u32 se,.int .u32 ((nu0 : Int) + (D.length : Int)),.string (S.extract 0 m),.string (T.extract 0 sz)]] w fun e w'=>e = .returned (.bool op1) ∧ Below w.heap.size w w':=KOP.out 0 18446744073709551615
              have KOP1:=Lib.hid kop
              clear kop KOP
              go_upto_region 13 with fail
              go_region
              go_upto_region 16 with (go_at_call 65;go_loud (with_reducible refine (KC1.out _).mono ?_);go_loud (rintro e2 w2 ⟨rfl,rfl⟩))
              go_region
              rw [← hWP]
              clear hWP
              go_wp2_with (first
                | (go_at_call 66;go_loud (with_reducible refine (KE1.out _).mono ?_);go_loud (rintro e4 w4 ⟨rfl,rfl⟩))
                | (go_at_call 67;go_loud (rw [← HWS.out]);go_loud (with_reducible refine (KOP1.out _).mono ?_);go_loud (rintro e5 w5 ⟨rfl,hb5⟩);go_loud (have B5:=blkP HBS.out hb5);go_loud (obtain ⟨y0,y1,y2,y3,y4,y5⟩:=gvL B5);go_loud (have hbx:=bt HbS.out hb5);go_loud (have ho5:=orow_bel HO.out hbx);go_loud (have hbw:=bt HBE.out hbx))
                | (at_builtin;go_loud (refine wpList_push1 rfl _ _ 34 27 rfl Tryz.underlying34 (.agg #[.int .u8 0,.int .u64 0,.int .u32 0,.int .u32 0,.string ⟨#[]⟩,.string ⟨#[]⟩]) 6 56 infoPage rfl (by decide) w5 W.heap.size (.slice av2 D.length cv2) D.length (gcells D) rfl ho5 #[.int .u8 0,.int .u64 18446744073709551615,.int .u32 se,.int .u32 ((nu0 : Int) + (D.length : Int)),.string (S.extract 0 m),.string (T.extract 0 sz)] rfl (by simp [Value.oneCell']) rfl z1 z2 hbw.size ?_);go_loud (intro v6 w6 hown6 hb6 hk6))
                | fail)
              have HO6 : Hid (w6.ownsRow W.heap.size 27 6 v6 (D ++ [(⟨0,18446744073709551615,se,nu,S.extract 0 m,T.extract 0 sz⟩ : PG)]).length (gcells (D ++ [(⟨0,18446744073709551615,se,nu,S.extract 0 m,T.extract 0 sz⟩ : PG)]))):=Lib.hid (by rw [gcells_snoc,List.length_append];simp only;rw [HCA.out];exact hown6)
              exact ⟨⟨f,_,_,op1,_,rfl,rfl,rfl,HO6,Lib.hid (hbw.trans hb6),Lib.hid (by rw [List.length_append];exact HP1.out),HFZ.out,HZ2,by rw [List.length_append];exact HDZ.out⟩,HMZ.out⟩
            | false=>
              have ke2:=KE1.out
              rw [hal] at ke2
              have hp2:=HP1.out
              rw [hal] at hp2
              simp only [if_true,Bool.not_true,Bool.not_false,Bool.false_eq_true,if_false] at ke2 hp2
              clear KE1 HP1 hal
              have KE1:=Lib.hid ke2
              have HP1:=Lib.hid hp2
              clear ke2 hp2
              obtain ⟨WS,hWS⟩ : ∃ WS,WS = ((WP.setCell ⟨wr.heap.size,3,none⟩ (.int .u32 ((nu0 : Int) + (D.length : Int)))).setCell ⟨wr.heap.size,0,none⟩ (.int .u8 0)):=⟨_,rfl⟩
              have BS : WS.heap[wr.heap.size]? = some (.cells #[.int .u8 0,.int .u64 0,.int .u32 se,.int .u32 ((nu0 : Int) + (D.length : Int)),.string (S.extract 0 m),.string (T.extract 0 sz)] 27 (0,0)):=by
                have s1:=Go.Lib.heap_setCell_same (i:=3) HBP.out (.int .u32 ((nu0 : Int) + (D.length : Int)))
                have s2:=Go.Lib.heap_setCell_same (i:=0) s1 (.int .u8 0)
                rw [hWS,s2]
                simp
              have hbS : Below wr.heap.size wr WS:=by
                rw [hWS]
                iterate 2 refine Below.setCell ?_ (by simp) _
                exact HbP.out
              have HWS:=Lib.hid hWS
              have HBS:=Lib.hid BS
              have HbS:=Lib.hid hbS
              clear hWS BS hbS
              have kop : ∀ (w : World),Calls Tryz.prog 67 #[.agg #[.int .u8 0,.int .u64 0,.int .u32 se,.int .u32 ((nu0 : Int) + (D.length : Int)),.string (S.extract 0 m),.string (T.extract 0 sz)]] w fun e w'=>e = .returned (.bool op1) ∧ Below w.heap.size w w':=KOP.out 0 0
              have KOP1:=Lib.hid kop
              clear kop KOP
              go_upto_region 13 with fail
              go_region
              go_upto_region 16 with (go_at_call 65;go_loud (with_reducible refine (KC1.out _).mono ?_);go_loud (rintro e2 w2 ⟨rfl,rfl⟩))
              go_region
              rw [← hWP]
              clear hWP
              go_wp2_with (first
                | (go_at_call 66;go_loud (with_reducible refine (KE1.out _).mono ?_);go_loud (rintro e4 w4 ⟨rfl,rfl⟩))
                | (go_at_call 67;go_loud (rw [← HWS.out]);go_loud (with_reducible refine (KOP1.out _).mono ?_);go_loud (rintro e5 w5 ⟨rfl,hb5⟩);go_loud (have B5:=blkP HBS.out hb5);go_loud (obtain ⟨y0,y1,y2,y3,y4,y5⟩:=gvL B5);go_loud (have hbx:=bt HbS.out hb5);go_loud (have ho5:=orow_bel HO.out hbx);go_loud (have hbw:=bt HBE.out hbx))
                | (at_builtin;go_loud (refine wpList_push1 rfl _ _ 34 27 rfl Tryz.underlying34 (.agg #[.int .u8 0,.int .u64 0,.int .u32 0,.int .u32 0,.string ⟨#[]⟩,.string ⟨#[]⟩]) 6 56 infoPage rfl (by decide) w5 W.heap.size (.slice av2 D.length cv2) D.length (gcells D) rfl ho5 #[.int .u8 0,.int .u64 0,.int .u32 se,.int .u32 ((nu0 : Int) + (D.length : Int)),.string (S.extract 0 m),.string (T.extract 0 sz)] rfl (by simp [Value.oneCell']) rfl z1 z2 hbw.size ?_);go_loud (intro v6 w6 hown6 hb6 hk6))
                | fail)
              have HO6 : Hid (w6.ownsRow W.heap.size 27 6 v6 (D ++ [(⟨0,0,se,nu,S.extract 0 m,T.extract 0 sz⟩ : PG)]).length (gcells (D ++ [(⟨0,0,se,nu,S.extract 0 m,T.extract 0 sz⟩ : PG)]))):=Lib.hid (by rw [gcells_snoc,List.length_append];simp only;rw [HCA.out];exact hown6)
              exact ⟨⟨f,_,_,op1,_,rfl,rfl,rfl,HO6,Lib.hid (hbw.trans hb6),Lib.hid (by rw [List.length_append];exact HP1.out),HFZ.out,HZ2,by rw [List.length_append];exact HDZ.out⟩,HMZ.out⟩
end Go.Proofs.YtnbglcaeekppjaaGreatDoor

