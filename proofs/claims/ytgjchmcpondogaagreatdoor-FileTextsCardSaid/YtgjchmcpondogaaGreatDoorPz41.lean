/- Pz41 -/
import Derived.Test.YtgjchmcpondogaaGreatDoorPz40
set_option linter.all false
set_option maxRecDepth 100000
set_option maxHeartbeats 40000000
namespace Go.Proofs.YtgjchmcpondogaaGreatDoor
open Go Go.Rf Go.RowKit
theorem run28:symEv {} 14 []=some (one1 (lB true)):=by kernel_rfl
theorem yFw(w:World)(hG:GW w):Calls Tryz.prog 14 #[] w fun e w'=>e=.returned (.bool true)∧Below w.heap.size w w':=by
 letI:=sgL [] trivial
 exact y00 (vals:=[]) (T:={}) hG ⟨trivial,trivial,trivial,trivial,trivial,trivial,trivial⟩ rfl run28 (fun _=>rfl)
theorem y3O{σ:Type}{X:(σ×List Pc) ⊕ Nat}{l:List Pc}(h:outP X=.inl l):∃st,X=.inl (st,l):=by
 cases X with
 | inl p=>obtain⟨st,l'⟩:=p;cases h;exact⟨st,rfl⟩
 | inr a=>cases h
theorem yDW{b:ByteArray}{l:List Pc}(h:srtM b=.inl l):∃st,walkS srtS b 0 [] (lnF (bl b) 0)=.inl (st,l):=by
 unfold srtM at h;split at h
 · split at h
   · cases h
   · rename_i st l' hx _
     cases h;exact⟨st,hx⟩
 · cases h
theorem yG9(k:Nat)(b:ByteArray)(l:List Pc)(h:txM k b=.inl l):whL l=bl b:=by
 have base:∀ {σ:Type} (step:σ→ByteArray→Option (σ×List Pc)) (hW:Whole step) (st0 st:σ),walkS step b st0 [] (lnF (bl b) 0)=.inl (st,l)→whL l=bl b:=fun step hW st0 st h=>
  y4d hW b b.size 0 st0 [] st l (Nat.sub_le _ _) (Nat.zero_le _) (yFF b 0).symm h
 unfold txM at h;split at h
 · obtain⟨st,h⟩:=y3O h;exact base _ yFa _ _ h
 · split at h
   · obtain⟨st,h⟩:=yDW h;exact base _ yDS _ _ h
   · split at h
     · obtain⟨st,h⟩:=y3O h;exact base _ yDQ _ _ h
     · obtain⟨st,h⟩:=y3O h;exact base _ yEb _ _ h
theorem y7n{σ:Type}{step:σ→ByteArray→Option (σ×List Pc)}(h:∀st s st' ps,step st s=some (st',ps)→ps.length≤2*s.size)(b:ByteArray):∀(n a:Nat) (st:σ) (acc:List Pc) (st':σ) (l:List Pc),b.size-a≤n→a≤b.size→acc.length≤3*a →
 walkS step b st acc (lnF (bl b) a)=.inl (st',l)→l.length≤3*b.size
 | n,a,st,acc,st',l,hn,ha,hw,he=>by
  have hL:=zJ b;by_cases hlt:a<b.size
  · rw[zp (bl b) a (by omega)]at he
    have e1:=y1w (bl b) a;have e2:=y2Z (bl b) a (by omega);have e3:=y35 (bl b) (nxE (bl b) a);have e4:=y3o (bl b) _ e2;have e5:=y58 (bl b) a (by omega);generalize nxE (bl b) a=E at *;generalize nxB (bl b) E=D at *;unfold walkS at he;cases hs:step st (b.extract a E)with
    | none=>rw[hs]at he;cases he
    | some p=>
     obtain⟨st2,ps⟩:=p;rw[hs]at he;simp only at he;have hp:=h _ _ _ _ hs;rw[ByteArray.size_extract]at hp;have hw2:(acc++ps++(if E<D then [mkP (b.extract E D)]else [])).length≤3*D:=by
      rw[List.length_append,List.length_append];split
      · simp;omega
      · simp;omega
     match n,hn with
     | 0,hn=>omega
     | n+1,hn=>exact y7n h b n D st2 _ st' l (by omega) (by omega) hw2 he
  · rw[y0s (bl b) a (by omega)]at he
    cases he;omega
theorem tx_len(k:Nat)(b:ByteArray)(l:List Pc)(h:txM k b=.inl l):l.length≤3*b.size:=by
 have base:∀ {σ:Type} (step:σ→ByteArray→Option (σ×List Pc)) (hW:∀st s st' ps,step st s=some (st',ps)→ps.length≤2*s.size) (st0 st:σ),walkS step b st0 [] (lnF (bl b) 0)=.inl (st,l)→l.length≤3*b.size:=fun step hW st0 st h=>
  y7n hW b b.size 0 st0 [] st l (Nat.sub_le _ _) (Nat.zero_le _) (Nat.zero_le _) h
 unfold txM at h;split at h
 · obtain⟨st,h⟩:=y3O h;exact base _ (fun st s st' ps h=>by unfold cueS at h;split at h<;>cases h;exact y7d s) _ _ h
 · split at h
   · obtain⟨st,h⟩:=yDW h;exact base _ yDV _ _ h
   · split at h
     · obtain⟨st,h⟩:=y3O h;exact base _ y9E _ _ h
     · obtain⟨st,h⟩:=y3O h;exact base _ y9g _ _ h
structure XS (w0:World) (k:Int) (v:Value) (l:List Pc) (w:World):Prop where
 bx:w.heap[w0.heap.size]?=some (.cells (treeA k v 0) 71 (0,0))
 ow:w.ownsRow (w0.heap.size+1) 74 3 v l.length (pcC l)
 bb:Below w0.heap.size w0 w
theorem XS.lt{w0 w:World}{k:Int}{v:Value}{l:List Pc}(h:XS w0 k v l w):w0.heap.size+1≤w.heap.size:=lt_of_block h.bx
theorem XS.bel{w0 w w':World}{k:Int}{v:Value}{l:List Pc}(h:XS w0 k v l w)(hb:Below w.heap.size w w'):XS w0 k v l w':=⟨blkQ h.bx hb,zK h.ow hb,h.bb.trans (hb.mono h.bb.size)⟩
theorem XS.fld{w0 w:World}{k:Int}{v:Value}{l:List Pc}(h:XS w0 k v l w):w.cell? ⟨w0.heap.size,23,none⟩=some v∧w.frozen? ⟨w0.heap.size,23,none⟩=false:=zN h.bx 23 _ rfl
theorem XS.low{w0 w w':World}{k:Int}{v:Value}{l:List Pc}(h:XS w0 k v l w)(hb:Below (w0.heap.size+1) w w'):w'.heap[w0.heap.size]?=some (.cells (treeA k v 0) 71 (0,0)):=(hb.block _ (Nat.lt_succ_self _)).trans h.bx
theorem XS.push{w0 w w6:World}{k:Int}{v v':Value}{l l':List Pc}(h:XS w0 k v l w)(ho:w6.ownsRow (w0.heap.size+1) 74 3 v' l'.length (pcC l'))(hb:Below (w0.heap.size+1) w w6):XS w0 k v' l' (w6.setCell ⟨w0.heap.size,23,none⟩ v'):=
 ⟨(Go.Lib.heap_setCell_same (i:=23) (h.low hb) v').trans rfl,y1D ho (p:=⟨w0.heap.size,23,none⟩) v' (Nat.lt_succ_self _),(h.bb.trans (hb.mono (Nat.le_succ _))).setCell (p:=⟨w0.heap.size,23,none⟩) (Nat.le_refl _) v'⟩
theorem yG2(w0:World)(k:Int)(z:Array Value):XS w0 k (.slice none 0 0) [] ((w0.alloc (.cells z 71)).setRow w0.heap.size (treeA k (.slice none 0 0) 0)):=by
 have h0:(w0.alloc (.cells z 71)).heap[w0.heap.size]?=some (.cells z 71 (0,0)):=heap_alloc_new _ _;exact⟨setRow_heap _ _ _ _ _ _ h0,World.ownsRow_nil _ _ _ _,below_setRow (bal (Below.refl _ _) _) _ (Nat.le_refl _) _⟩
abbrev fK(f:Int):Array Value:=#[.int .i64 f,.int .i64 0]
theorem yEu(f:Int):(Tryz.prog.info? 37).map (·.size)=some (fK f).size:=by show _=some 2;kernel_rfl
theorem yJ6(f:Int):(fK f).all (·.oneCell')=true:=by kernel_rfl
theorem y7S(w:World)(z:Array Value)(f:Int):((w.alloc (.cells z 37)).setRow w.heap.size (fK f)).heap[w.heap.size]?=some (.cells (fK f) 37 (0,0))∧Below w.heap.size w ((w.alloc (.cells z 37)).setRow w.heap.size (fK f)):=
 ⟨setRow_heap _ _ _ _ _ _ (heap_alloc_new _ _),below_setRow (bal (Below.refl _ _) _) _ (Nat.le_refl _) _⟩
theorem yFB{w:World}{b:Nat}{f:Int}(h:w.heap[b]?=some (.cells (fK f) 37 (0,0))):w.cell? ⟨b,0,none⟩=some (.int .i64 f)∧w.cell? ⟨b,1,none⟩=some (.int .i64 0):=⟨(zN h 0 _ rfl).1,(zN h 1 _ rfl).1⟩
end Go.Proofs.YtgjchmcpondogaaGreatDoor
