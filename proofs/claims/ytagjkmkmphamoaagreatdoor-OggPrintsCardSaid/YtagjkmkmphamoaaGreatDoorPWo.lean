/- Wo -/
import Derived.Shelf.Unicode.DecodeAny
import Derived.Lib.TrailingZeros
import Derived.Test.YtagjkmkmphamoaaGreatDoorProg
import Derived.Test.YtagjkmkmphamoaaGreatDoorPBa
set_option linter.all false
namespace Go.Proofs.YtagjkmkmphamoaaGreatDoor
open Go.RowKit
structure TW (w:World):Prop where
 u8:Lib.Utf8Tabs 0 1 w
 db:∀i,i<32→w.cell? ⟨3,i,none⟩=some (.int .u8 (Lib.deBruijn32tab.getD i 0:Nat))
 ml:∃m,w.cell? ⟨2,0,none⟩=some (.int .i64 m)
 sz:4≤w.heap.size
theorem TW.keep{w w':World}(h:TW w)(hs:4≤w'.heap.size)(hc:∀b o,b<4→w'.cell? ⟨b,o,none⟩=w.cell? ⟨b,o,none⟩):TW w':=by
 refine⟨⟨?_,?_⟩,?_,?_,hs⟩
 · intro c hl;rw[hc _ _ (by decide)];exact h.u8.1 c hl
 · intro i hi;rw[hc _ _ (by decide),hc _ _ (by decide)];exact h.u8.2 i hi
 · intro i hi;rw[hc _ _ (by decide)];exact h.db i hi
 · obtain⟨m,hm⟩:=h.ml;exact⟨m,(hc _ _ (by decide)).trans hm⟩
theorem TW.below{w w':World}{B:Nat}(h:TW w)(hb:Below B w w')(hB:4≤B):TW w':=
 h.keep (Nat.le_trans h.sz hb.size) fun b o hl=>hb.cell (p:=⟨b,o,none⟩) (Nat.lt_of_lt_of_le hl hB)
theorem TW.bel{w w':World}(h:TW w)(hb:Below w.heap.size w w'):TW w':=h.below hb h.sz
theorem TW.alloc{w:World}(h:TW w)(o:Obj):TW (w.alloc o):=h.bel ((Below.refl _ _).alloc (Nat.le_refl _) o)
theorem TW.drew{w:World}(h:TW w):TW w.drew:=h.bel (Below.refl _ _).drew
theorem TW.drewN{w:World}(h:TW w)(n:Nat):TW (w.drewN n):=h.bel (bdn (Below.refl _ _) n)
theorem TW.setCell{w:World}(h:TW w){p:Addr}(hp:4≤p.block)(u:Value):TW (w.setCell p u):=h.below ((Below.refl 4 _).setCell hp u) (Nat.le_refl _)
theorem TW.grown{w w':World}{row:Option Nat}(h:TW w)(hg:w.grownBy w' row)(hr:∀k,row=some k→4≤k):TW w':=
 h.below ((Below.refl 4 w).grown hg h.sz hr) (Nat.le_refl _)
end Go.Proofs.YtagjkmkmphamoaaGreatDoor
namespace Go.Proofs.YtagjkmkmphamoaaGreatDoor
open Go.RowKit Go.Maps Go.MapKept Go.ChangeMaps
def MapS(P:Program)(k:TypeId)(w:World)(b:Nat)(S:Value→Value→Prop):Prop:=
 ∃es clock,w.heap[b]?=some (.map es clock)∧(∀x∈es.toList,∃l,keyOf P k x.key=some l)∧(es.toList.Pairwise fun x y=>x.key≠y.key)∧∀u v,S u v↔∃x∈es.toList,x.key=u∧x.val=v
section
variable {P:Program} {k e t:TypeId} {w:World} {b:Nat} {S:Value→Value→Prop}
theorem MapS.lt(h:MapS P k w b S):b<w.heap.size:=by
 obtain⟨es,clock,hb,_⟩:=h;exact(Array.getElem?_eq_some_iff.1 hb).1
theorem MapS.made(w:World)(P:Program)(k:TypeId):MapS P k (w.alloc (.map #[] 0)) w.heap.size (fun _ _=>False):=
 ⟨#[],0,(MapKept.heap_alloc w _).1,by simp,by simp,by simp⟩
theorem MapS.congr{S':Value→Value→Prop}(h:MapS P k w b S)(hs:∀u v,S u v↔S' u v):MapS P k w b S':=by
 obtain⟨es,clock,hb,hk,hd,hp⟩:=h;exact⟨es,clock,hb,hk,hd,fun u v=>(hs u v).symm.trans (hp u v)⟩
theorem MapS.blk{w':World}(h:MapS P k w b S)(he:w'.heap[b]?=w.heap[b]?):MapS P k w' b S:=by
 obtain⟨es,clock,hb,r⟩:=h;exact⟨es,clock,he.trans hb,r⟩
theorem MapS.bel{w':World}(h:MapS P k w b S)(hb:Below w.heap.size w w'):MapS P k w' b S:=h.blk (hb.block b h.lt)
theorem MapS.grown{w':World}{row:Option Nat}(h:MapS P k w b S)(hg:w.grownBy w' row)(hne:some b≠row):MapS P k w' b S:=h.blk (hg.block b h.lt hne)
theorem MapS.alloc(h:MapS P k w b S)(o:Obj):MapS P k (w.alloc o) b S:=h.grown (World.grownBy_alloc w o none) (by simp)
theorem MapS.drew(h:MapS P k w b S):MapS P k w.drew b S:=h
theorem MapS.drewN(h:MapS P k w b S)(n:Nat):MapS P k (w.drewN n) b S:=h.blk rfl
theorem MapS.setCell(h:MapS P k w b S){p:Addr}(hp:b≠p.block)(u:Value):MapS P k (w.setCell p u) b S:=
 h.blk (Below.heap_setCell w p u b hp)
theorem MapS.look(h:MapS P k w b S)(K:Keyed P k)(ht:P.underlying t=some (.map k e))(c:Bool){z:Value}(hz:(zeroValue e).run P w=.ok z w){key:Value}{kl:Lit}(hkey:keyOf P k key=some kl):
 ((∀v,¬S key v)∧(Instr.lookup t (.map (some b)) key c).run P w=.ok (if c then .tuple #[z,.bool false]else z) w) ∨
 ∃v,S key v∧(Instr.lookup t (.map (some b)) key c).run P w=.ok (if c then .tuple #[v,.bool true]else v) w:=by
 obtain⟨es,clock,hb,hks,hd,hp⟩:=h;rcases K.find w hkey es.toList hks with⟨h1,h2⟩|⟨j,e0,h1,h2,h3⟩
 · refine .inl ⟨fun v hv=>?_,by simp[Instr.lookup,run_underlying ht,MapKept.run_getObj_map hb,K.check w _ hkey,h1,hz,Result.andThen]⟩
   obtain⟨x,hx,hx1,_⟩:=(hp key v).1 hv;exact h2 x hx hx1
 · exact .inr ⟨e0.val,(hp _ _).2 ⟨e0,List.mem_of_getElem? h2,h3,rfl⟩,by simp[Instr.lookup,run_underlying ht,MapKept.run_getObj_map hb,K.check w _ hkey,h1,Result.andThen]⟩
theorem MapS.store(h:MapS P k w b S)(K:Keyed P k)(ht:P.underlying t=some (.map k e)){key val:Value}{kl:Lit}(hkey:keyOf P k key=some kl):
 ∃w',(Instr.mapUpdate t (.map (some b)) key val).run P w=.ok () w'∧MapS P k w' b (fun u v=>(u=key∧v=val)∨(u≠key∧S u v))∧w.grownBy w' (some b):=by
 obtain⟨es,clock,hb,hks,hd,hp⟩:=h;rcases K.find w hkey es.toList hks with⟨h1,h2⟩|⟨j,e0,h1,h2,h3⟩
 · refine⟨setBlock w b (.map (es.push ⟨key,val,clock⟩) (clock+1)),by simp[Instr.mapUpdate,run_underlying ht,MapKept.run_getObj_map hb,K.check w false hkey,h1,MapKept.run_setObj_map _ hb,Result.andThen,setBlock],
    ⟨_,_,heap_setBlock_same hb _,?_,?_,?_⟩,⟨rfl,rfl,rfl,by simp[setBlock],fun i _ hi=>heap_setBlock_other hb _ (fun e=>hi (by rw[e]))⟩⟩
   · intro x hx
     simp only[Array.toList_push,List.mem_append,List.mem_singleton]at hx;rcases hx with hx|rfl
     · exact hks x hx
     · exact⟨kl,hkey⟩
   · rw[Array.toList_push,List.pairwise_append]
     exact⟨hd,by simp,fun x hx y hy=>by simp only[List.mem_singleton]at hy;subst hy;exact h2 x hx⟩
   · intro u v
     simp only[Array.toList_push,List.mem_append,List.mem_singleton]
     constructor
     · rintro(⟨rfl,rfl⟩|⟨hu,hs⟩)
       · exact⟨_,.inr rfl,rfl,rfl⟩
       · obtain⟨x,hx,h⟩:=(hp u v).1 hs
         exact⟨x,.inl hx,h⟩
     · rintro⟨x,hx|rfl,rfl,rfl⟩
       · exact .inr ⟨h2 x hx,(hp _ _).2 ⟨x,hx,rfl,rfl⟩⟩
       · exact .inl ⟨rfl,rfl⟩
 · have hj:es[j]?=some e0:=by simpa using h2
   have hjl:j<es.toList.length:=(List.getElem?_eq_some_iff.1 h2).1;have hlist:(es.modify j (fun e'=>{ e' with key:=key,val:=val })).toList=es.toList.set j { e0 with key:=key,val:=val }:=by rw[Array.toList_modify,modify_eq_set _ _ _ _ h2]
   have hother:∀i x,es.toList[i]?=some x→i≠j→x.key≠key:=by
    intro i x hi hne e1;rw[←h3]at e1;have hil:=(List.getElem?_eq_some_iff.1 hi);have hjl':=(List.getElem?_eq_some_iff.1 h2);rcases Nat.lt_or_gt_of_ne hne with hlt|hlt
    · have:=List.pairwise_iff_getElem.1 hd i j hil.1 hjl'.1 hlt
      rw[hil.2,hjl'.2]at this;exact this e1
    · have:=List.pairwise_iff_getElem.1 hd j i hjl'.1 hil.1 hlt
      rw[hil.2,hjl'.2]at this;exact this e1.symm
   have who:∀x∈es.toList.set j { e0 with key:=key,val:=val },x = { e0 with key:=key,val:=val }∨(x∈es.toList∧x.key≠key):=by
    intro x hx;obtain⟨i,hi,ex⟩:=List.getElem_of_mem hx;rw[List.getElem_set]at ex;split at ex
    · exact Or.inl ex.symm
    · rename_i hne
      have hi':i<es.toList.length:=by simpa using hi
      exact Or.inr ⟨ex ▸ List.getElem_mem hi',hother i x (by rw[List.getElem?_eq_getElem hi',ex]) (fun e1=>hne e1.symm)⟩
   refine⟨setBlock w b (.map (es.modify j (fun e'=>{ e' with key:=key,val:=val })) clock),by simp[Instr.mapUpdate,run_underlying ht,MapKept.run_getObj_map hb,K.check w false hkey,h1,hj,h3,K.stays w hkey,MapKept.run_setObj_map _ hb,Result.andThen,setBlock],
    ⟨_,_,heap_setBlock_same hb _,?_,?_,?_⟩,⟨rfl,rfl,rfl,by simp[setBlock],fun i _ hi=>heap_setBlock_other hb _ (fun e=>hi (by rw[e]))⟩⟩
   · intro x hx
     rw[hlist]at hx;rcases who x hx with rfl|⟨hx',_⟩
     · exact⟨kl,hkey⟩
     · exact hks x hx'
   · rw[hlist]
     have hm:(es.toList.set j { e0 with key:=key,val:=val }).map (·.key)=es.toList.map (·.key):=by
      rw[List.map_set];have:(es.toList.map (·.key))[j]?=some key:=by rw[List.getElem?_map,h2];simp[h3]
      apply List.ext_getElem?;intro i;rw[List.getElem?_set];split
      · rename_i e1;subst e1
        split
        · rw[this]
        · rename_i hc;exact absurd (by simpa using hjl) hc
      · rfl
     have h0:(es.toList.map (·.key)).Pairwise (· ≠ ·):=List.pairwise_map.2 hd;rw[←hm]at h0;exact List.pairwise_map.1 h0
   · intro u v
     rw[hlist]
     constructor
     · rintro(⟨rfl,rfl⟩|⟨hu,hs⟩)
       · exact⟨{ e0 with key:=u,val:=v },List.mem_iff_getElem.2 ⟨j,by simpa using hjl,by simp⟩,rfl,rfl⟩
       · obtain⟨x,hx,rfl,rfl⟩:=(hp u v).1 hs
         obtain⟨i,hi,ex⟩:=List.getElem_of_mem hx;have hne:i≠j:=by
          rintro rfl;have:=(List.getElem?_eq_some_iff.1 h2).2;rw[ex]at this;subst this;exact hu h3
         refine⟨x,List.mem_iff_getElem.2 ⟨i,by simpa using hi,?_⟩,rfl,rfl⟩;rw[List.getElem_set,if_neg (fun e1=>hne e1.symm)];exact ex
     · rintro⟨x,hx,rfl,rfl⟩
       rcases who x hx with rfl|⟨hx',hne⟩
       · exact .inl ⟨rfl,rfl⟩
       · exact .inr ⟨hne,(hp _ _).2 ⟨x,hx',rfl,rfl⟩⟩
end
section
variable {P:Program} {ops:Array Oper} {rest:List Oper} {o:Oper} {a:Act} {Q:Exit→Act→World→Prop}
theorem jk7(w:World)(hg:o.guard=none)(m x:Operand)(t:TypeId)(hop:o.op=Op.lookup t m x true)
 (k e:TypeId) (K:Keyed P k) (ht:P.underlying t=some (.map k e)) (z:Value) (hz:(zeroValue e).run P w=.ok z w) (b:Nat) (S:Value→Value→Prop)
 (hm:a.eval m=.map (some b)) (hS:MapS P k w b S) (key:Value) (kl:Lit) (hx:a.eval x=key) (hkey:keyOf P k key=some kl)
 (h0:(∀v,¬S key v)→wpList P ops Q rest (a.put o.dst (.tuple #[z,.bool false])) w) (h1:∀v,S key v→wpList P ops Q rest (a.put o.dst (.tuple #[v,.bool true])) w):
 wpList P ops Q (o::rest) a w:=by
 refine wpList_plain hg fun K' hK'=>?_
 rcases hS.look K ht true hz hkey with⟨hn,hrun⟩|⟨v,hv,hrun⟩
 · unfold Oper.wp
   simp[execOp,hop,hm,hx,hrun,Result.andThen];exact hK' _ _ (h0 hn)
 · unfold Oper.wp
   simp[execOp,hop,hm,hx,hrun,Result.andThen];exact hK' _ _ (h1 v hv)
theorem jp6(w:World)(hg:o.guard=none)(m x v:Operand)(t:TypeId)(hop:o.op=Op.mapUpdate t m x v)
 (k e:TypeId) (K:Keyed P k) (ht:P.underlying t=some (.map k e)) (b:Nat) (S:Value→Value→Prop)
 (hm:a.eval m=.map (some b)) (hS:MapS P k w b S) (key val:Value) (kl:Lit) (hx:a.eval x=key) (hv:a.eval v=val) (hkey:keyOf P k key=some kl)
 (hK:∀w',MapS P k w' b (fun u v=>(u=key∧v=val)∨(u≠key∧S u v))→w.grownBy w' (some b)→wpList P ops Q rest (a.put o.dst undef) w'):
 wpList P ops Q (o::rest) a w:=by
 refine wpList_plain hg fun K' hK'=>?_
 obtain⟨w',hrun,r1,r2⟩:=hS.store (val:=val) K ht hkey;unfold Oper.wp;simp[execOp,hop,hm,hx,hv,hrun,Result.andThen];exact hK' _ _ (hK w' r1 r2)
end
end Go.Proofs.YtagjkmkmphamoaaGreatDoor
namespace Go.Proofs.YtagjkmkmphamoaaGreatDoor
open Go.RowKit
section
variable {P:Program} {ops:Array Oper} {rest:List Oper} {o:Oper} {a:Act} {Q:Exit→Act→World→Prop}
theorem wpList_store_row{w:World}(hgd:o.guard=none)(hds:o.dst=none)(ty:TypeId)(x v:Operand)(ho:o.op=.store ty x v)
 (g:Nat) (hx:a.eval x=.pointer (some ⟨g,0,none⟩)) (t:TypeId) (cur cs:Array Value) (hg:w.heap[g]?=some (.cells cur t (0,0))) (hv:a.eval v=.agg cs)
 (hi:(P.info? ty).map (·.size)=some cs.size) (hsz:cur.size=cs.size) (h1:∀u∈cs.toList,u.oneCell'=true)
 (h:wpList P ops Q rest a (w.setRow g cs)):wpList P ops Q (o::rest) a w:=by
 refine wpList_plain hgd fun K hK=>?_
 have hst:=run_storeCells_at P g 0 t cs.toList 0 cur w hg (by simp[hsz]) h1;have e:(cur.toList.take (0+0)++cs.toList++cur.toList.drop (0+0+cs.toList.length)).toArray=cs:=by
  rw[List.drop_of_length_le (by simp[hsz])];simp
 rw[e]at hst;cases hq:P.info? ty with
 | none=>simp[hq]at hi
 | some i=>
  have hs:i.size=cs.size:=by simpa[hq]using hi
  unfold Oper.wp execOp;simp[ho,hx,hv,Instr.storeAt,Instr.sureAddr,storeVar,sizeOf,typeInfo,hq,hs,hst,Value.cells];have e2:a.put o.dst undef=a:=by rw[hds];rfl
  exact hK _ _ (by rw[e2];exact h)
theorem jc6{w:World}(hgd:o.guard=none)(t:TypeId)(x y:Operand)(ho:o.op=.index t x y)(n:Nat)(e:TypeId)(ht:P.underlying t=some (.array n e))(d:TypeDesc)
 (hu:P.underlying e=some d) (hd:(match d with | .struct _ | .array _ _=>true|_=>false)=true) (size:Nat) (hi:(P.info? e).map (·.size)=some size)
 (cs:Array Value) (hx:a.eval x=.agg cs) (k:IntKind) (i:Nat) (hy:a.eval y=.int k (i:Int)) (hin:i<n) (sub:Array Value) (hsub:cs.extract (i*size) (i*size+size)=sub)
 (h:wpList P ops Q rest (a.put o.dst (.agg sub)) w):wpList P ops Q (o::rest) a w:=by
 refine wpList_plain hgd fun K hK=>?_
 cases hq:P.info? e with
 | none=>simp[hq]at hi
 | some ii=>
  have hs:ii.size=size:=by simpa[hq]using hi
  have hagg:(isAgg e).run P w=.ok true w:=by
   unfold isAgg;rw[Sem.run_bind,run_underlying hu w];cases d<;>simp_all
  have hrun:(Instr.index t (.agg cs) (.int k i)).run P w=.ok (.agg sub) w:=by
   simp[Instr.index,run_underlying ht,asIntOf,hin,part,hagg,sizeOf,typeInfo,hq,hs,Sem.run_bind,hsub]
  unfold Oper.wp execOp;simp[ho,hx,hy,hrun,Result.andThen];exact hK _ _ h
end
theorem kf2{B:Nat}{v w:World}(h:Below B v w)(g:Nat)(hg:B≤g)(cs:Array Value):Below B v (w.setRow g cs):=
 h.trans ⟨rfl,rfl,rfl,by rw[setRow_size];exact Nat.le_refl _,fun i hi=>setRow_other _ _ _ _ (by omega)⟩
theorem bdnB{B:Nat}{v w:World}(h:Below B v w)(n:Nat):Below B v (w.drewN n):=h.trans ⟨rfl,rfl,rfl,Nat.le_refl _,fun _ _=>rfl⟩
end Go.Proofs.YtagjkmkmphamoaaGreatDoor
