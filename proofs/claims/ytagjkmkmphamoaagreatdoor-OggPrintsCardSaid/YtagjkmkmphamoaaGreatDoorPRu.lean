/- Ru -/
import Derived.Lib.AppendZerosOnto
import Derived.Lib.OwnBridge
import Derived.Test.YtagjkmkmphamoaaGreatDoorPShelf
import Derived.Test.YtagjkmkmphamoaaGreatDoorPA2
set_option linter.all false
set_option maxHeartbeats 2000000
namespace Go.Proofs.YtagjkmkmphamoaaGreatDoor
open Go.RowKit
section
variable {P:Program} {ops:Array Oper} {rest:List Oper} {o:Oper} {a:Act} {Q:Exit→Act→World→Prop}
theorem jr8(w:World)(t tn ty e:TypeId)(i:TypeInfo)(z:Value)(kq kn:IntKind)(ht:P.underlying t=some (.slice e))(htn:P.underlying tn=some (.int kn))(hi:P.info? e=some i)(hz:i.zero=some z)(hs:i.size=1)
 (hz1:z.cells=#[z]) (ho1:z.oneCell'=true)
 (g sLen sCap:Nat) (cur:Array Value) (hg:w.heap[g]?=some (.cells cur e (0,0))) (k:Nat) (h0:0<k) (hroom:sLen+k≤sCap) (hfit:sLen+k≤cur.size) (h63:(k:Int)≤9223372036854775807) (h48:k*i.bytes≤281474976710656):
 (Builtin.append_ #[t,tn] ty #[.slice (some ⟨g,0,none⟩) sLen sCap,.int kq k]).run P w =
   .ok (.slice (some ⟨g,0,none⟩) (sLen+k) sCap) (w.setRow g (cur.toList.take sLen++List.replicate k z++cur.toList.drop (sLen+k)).toArray):=by
 have hk:k≠0:=by omega
 have hw:IntKind.i64.wrap (k:Int)=k:=by rw[IntKind.wrap_i64];omega
 have h48i:¬(281474976710656<(k:Int)*(i.bytes:Int)):=by
  rw[←Int.natCast_mul];omega
 have hneg:¬((k:Int)<0):=by omega
 have hzc:(Builtin.zeroCells #[z] k).toList=List.replicate k z:=by
  apply List.ext_getElem
  · simp[Builtin.zeroCells]
  · intro n h1 h2
    simp[Builtin.zeroCells,Nat.mod_one]
 have hst:=run_storeCells_at P g sLen e (List.replicate k z) 0 cur w hg (by simpa using hfit) (by intro u hu;rw[List.eq_of_mem_replicate hu];exact ho1);simp only[Nat.add_zero,List.length_replicate]at hst;simp[Builtin.append_,run_underlying ht,run_underlying htn,sizeOf,typeInfo,zeroValue,hi,hz,asInt,asIntOf,hw,hneg,h48i,hs,hk,hroom,hz1,hzc,Addr.add_lit,hst]
theorem jv6(w:World)(base:Nat)(t tn ty e:TypeId)(z:Value)(bytes:Nat)(kq kn:IntKind)(ht:P.underlying t=some (.slice e))(htn:P.underlying tn=some (.int kn))
 (hi:(P.info? e).map (fun i=>(i.zero,i.size,i.bytes))=some (some z,1,bytes)) (hz1:z.cells=#[z]) (ho1:z.oneCell'=true)
 (v:Value) (n:Nat) (xs:List Value) (hown:w.ownsRow base e 1 v n xs) (k:Nat) (h0:0<k) (h63:n+k≤maxLen) (hbytes:(n+k)*bytes≤140737488355328) (hbase:base≤w.heap.size):
 ∃v' w',(Builtin.append_ #[t,tn] ty #[v,.int kq k]).run P w=.ok v' w'∧w'.ownsRow base e 1 v' (n+k) (xs++List.replicate k z)∧w.grownBy w' v.ownBlock:=by
 obtain⟨i,hi',hz,hs,hby⟩:=info_parts hi;clear hi;have hi:=hi';clear hi';subst hby;have hlen:(xs++List.replicate k z).length=(n+k)*1:=by have:=hown.1;simp;omega
 have hzc:∀m,(Builtin.zeroCells z.cells m).toList=List.replicate m z:=by
  intro m;rw[hz1];apply List.ext_getElem
  · simp[Builtin.zeroCells]
  · intro n h1 h2
    simp[Builtin.zeroCells,Nat.mod_one]
 have hzs:∀m,(Builtin.zeroCells z.cells m).size=m:=fun m=>by have:=congrArg List.length (hzc m);simpa using this
 have h63':n+k≤9223372036854775807:=by simp only[maxLen]at h63;omega
 have hkb:k*i.bytes≤281474976710656:=Nat.le_trans (Nat.mul_le_mul_right _ (Nat.le_add_left k n)) (by omega);have grown:∀(old:Nat) (row:Option Nat),
  (w.drew.alloc (.cells (xs.toArray++Builtin.zeroCells z.cells k++Builtin.zeroCells z.cells (grownCap w (n+k) old e-(n+k))) e)).ownsRow base e 1
    (.slice (some ⟨w.heap.size,0,none⟩) (n+k) (grownCap w (n+k) old e)) (n+k) (xs++List.replicate k z) ∧
  w.grownBy (w.drew.alloc (.cells (xs.toArray++Builtin.zeroCells z.cells k++Builtin.zeroCells z.cells (grownCap w (n+k) old e-(n+k))) e)) row:=by
  intro old row;have hge:=grownCap_ge w (n+k) old e;have hcm:grownCap w (n+k) old e≤maxLen:=grownCap_le_maxLen w (n+k) old e h63;refine⟨⟨hlen,.inr ⟨w.heap.size,_,_,rfl,hbase,heap_alloc_new w.drew _,hge,hcm,?_,?_⟩⟩,⟨rfl,rfl,rfl,by simp,fun j hj _=>heap_alloc_old w.drew _ hj⟩⟩
  · simp only[Array.size_append,List.size_toArray,hzs,hown.1];omega
  · simp only[Array.toList_append,hzc]
    rw[←hlen];exact List.take_left
 rcases hown.2 with⟨rfl,rfl⟩|⟨g,cap,cur,rfl,hbg,hg,hnc,hcm,hcs,htake⟩
 · have hx:xs = []:=List.eq_nil_of_length_eq_zero (by simpa using hown.1)
   subst hx;have hr:=Lib.run_append_nil_zeros (P:=P) w t tn ty e i z kq kn ht htn hi hz k h0 (by omega) (by omega) hkb;have hgr:=grown 0 (Value.ownBlock (.slice none 0 0));simp only[Nat.zero_add,List.nil_append,Array.empty_append]at hgr ⊢;exact⟨_,_,hr,hgr.1,hgr.2⟩
 · by_cases hroom:n+k≤cap
   · have hr:=jr8 (P:=P) w t tn ty e i z kq kn ht htn hi hz hs hz1 ho1 g n cap cur hg k h0 hroom (by omega) (by omega) hkb
     refine⟨_,_,hr,⟨hlen,.inr ⟨g,cap,_,rfl,hbg,setRow_heap w g cur _ e _ hg,hroom,hcm,?_,?_⟩⟩,⟨rfl,rfl,rfl,by simp,fun k hk hne=>setRow_other w g k _ (fun e=>hne (by simp[Value.ownBlock,e]))⟩⟩
     · simp only[List.size_toArray,List.length_append,List.length_take,List.length_drop,Array.length_toList,List.length_replicate]
       omega
     · rw[Nat.mul_one]at htake
       rw[htake,←hlen];exact List.take_left
   · have holds:∀j u,xs[j]?=some u→w.drew.cell? ((⟨g,0,none⟩:Addr).add j)=some u:=hown.cells (g:=g) rfl
     have hold:=run_firstCells_some (P:=P) w.drew i.size n ⟨g,0,none⟩ n cap xs (by rw[hs];exact hown.1) holds;have hr:=Lib.run_append_grow_zeros (P:=P) w t tn ty e i z kq kn ht htn hi hz (some ⟨g,0,none⟩) n cap xs hold k h0 (by omega) (by omega) (by omega) hkb (growslice_fits (by omega) hbytes);have hgr:=grown cap (Value.ownBlock (.slice (some ⟨g,0,none⟩) n cap));exact⟨_,_,hr,hgr.1,hgr.2⟩
theorem jw0(hgd:o.guard=none)(s x:Operand)(t tn e:TypeId)(ho:o.op=.call { callee:=.builtin .append,args:=#[s,x],argTypes:=#[t,tn] })(kn:IntKind)
 (ht:P.underlying t=some (.slice e)) (htn:P.underlying tn=some (.int kn)) (z:Value) (bytes:Nat)
 (hi:(P.info? e).map (fun i=>(i.zero,i.size,i.bytes))=some (some z,1,bytes)) (hz1:z.cells=#[z]) (ho1:z.oneCell'=true)
 (w:World) (B:Nat) (v:Value) (n:Nat) (xs:List Value) (hs:a.eval s=v) (hown:w.ownsRow B e 1 v n xs) (kq:IntKind) (k:Nat) (hx:a.eval x=.int kq k) (h0:0<k) (h63:n+k≤maxLen) (hbytes:(n+k)*bytes≤140737488355328) (hB:B≤w.heap.size)
 (h:∀v' w',w'.ownsRow B e 1 v' (n+k) (xs++List.replicate k z)→w.grownBy w' v.ownBlock→wpList P ops Q rest (a.put o.dst v') w'):wpList P ops Q (o::rest) a w:=by
 obtain⟨v',w',hr,h2,h3⟩:=jv6 (P:=P) w B t tn o.type e z bytes kq kn ht htn hi hz1 ho1 v n xs hown k h0 h63 hbytes hB;exact Lib.wpList_append_run w hgd s x t tn ho v (.int kq k) hs hx v' w' hr (h v' w' h2 h3)
end
structure RR where
 fr:Int
 ct:Int
 tq:Int
 ad:Option Addr
 ln:Nat
 cp:Nat
 sg:Option (List Int)
instance:Inhabited RR:=⟨⟨0,0,0,none,0,0,none⟩⟩
def RR.sv(r:RR):Value:=.slice r.ad r.ln r.cp
def RR.enc(r:RR):List Value:=[.int .i64 r.fr,.int .i64 r.ct,.int .i32 r.tq,r.sv]
def RR.fin(r:RR):Int:=r.fr+r.ct
def RR.sign(r:RR)(c:Int):Int:=match r.sg with|some l=>l.getD (c-r.fr).toNat 0|none=>r.tq+(c-r.fr)
def RR.Ok(w:World)(r:RR):Prop:=match r.sg with
 | none=>r.sv=.slice none 0 0
 | some l=>∃g o cap cur,r.sv=.slice (some ⟨g,o,none⟩) l.length cap∧l.length≤cap∧cap≤maxLen∧w.heap[g]?=some (.cells cur 21 (0,0))∧∀(j:Nat) (x:Value),(icells l)[j]?=some x→cur[o+j]?=some x
theorem RR.Ok.blk{w w':World}{r:RR}(h:r.Ok w)(hb:∀(k:Nat) (cur:Array Value),w.heap[k]?=some (Obj.cells cur 21 (0,0))→w'.heap[k]?=w.heap[k]?):r.Ok w':=by
 unfold RR.Ok at *;cases hs:r.sg with
 | none=>rw[hs]at h;exact h
 | some l=>
  rw[hs]at h;obtain⟨g,o,cap,cur,e,h1,h2,h3,h4⟩:=h;exact⟨g,o,cap,cur,e,h1,h2,(hb g cur h3).trans h3,h4⟩
theorem RR.Ok.keep{w w':World}{r:RR}(h:r.Ok w)(hb:Below w.heap.size w w'):r.Ok w':=h.blk fun k cur hk=>hb.block k (Array.getElem?_eq_some_iff.1 hk).1
def rcells(X:List RR):List Value:=X.flatMap RR.enc
theorem jh9(X Y:List RR):rcells (X++Y)=rcells X++rcells Y:=by simp[rcells]
theorem jg1(X:List RR):(rcells X).length=X.length*4:=by
 induction X with
 | nil=>rfl
 | cons r X ih=>rw[rcells,List.flatMap_cons,List.length_append,←rcells,ih];simp[RR.enc];omega
theorem js0(X:List RR)(i:Nat)(r:RR)(h:X[i]?=some r)(j:Nat)(hj:j<4):(rcells X)[i*4+j]?=r.enc[j]?:=by
 induction X generalizing i with
 | nil=>simp at h
 | cons x X ih=>
  rw[rcells,List.flatMap_cons,←rcells];cases i with
  | zero=>
   simp only[List.getElem?_cons_zero,Option.some.injEq]at h;subst h;rw[List.getElem?_append_left (by simp[RR.enc];omega)];simp
  | succ i=>
   rw[List.getElem?_append_right (by simp[RR.enc];omega)];rw[show(i+1)*4+j-x.enc.length=i*4+j from by simp[RR.enc];omega];exact ih i (by simpa using h)
theorem RR.one(r:RR):∀u∈r.enc,u.oneCell'=true:=by
 intro u hm;simp only[RR.enc,List.mem_cons,List.not_mem_nil,or_false]at hm;rcases hm with rfl|rfl|rfl|rfl
 all_goals rfl
theorem jw7(d:Array RR):Go.Sort.flatK RR.enc 4 d=(rcells d.toList).toArray:=by
 refine Go.Sort.ext_get! (by simp[jg1]) fun t ht=>?_
 have ht':t<d.size*4:=by simpa using ht
 rw[Go.Sort.get_flatK _ _ _ _ ht'];have hi:t/4<d.size:=by omega
 have hx:d.toList[t/4]?=some d[t/4]!:=by simp[hi]
 have h1:=js0 d.toList (t/4) _ hx (t%4) (by omega);rw[show t/4*4+t%4=t from by omega]at h1;have hl:(d[t/4]!).enc.length=4:=rfl;have h2:(d[t/4]!).enc[t%4]?=some ((d[t/4]!).enc[t%4]!):=by
  have:t%4<(d[t/4]!).enc.length:=by rw[hl];omega
  rw[List.getElem?_eq_getElem this];simp[this]
 rw[h2]at h1;have h3:t<(rcells d.toList).length:=(List.getElem?_eq_some_iff.1 h1).1;simp only[List.getElem!_toArray];rw[getElem!_pos _ t h3,(List.getElem?_eq_some_iff.1 h1).2]
def cmpR(a b:RR):Int:=if a.fr<b.fr then -1 else if b.fr<a.fr then 1 else 0
theorem ltR(x y:RR):Go.Proofs.ltOf cmpR x y=decide (x.fr<y.fr):=by
 unfold Go.Proofs.ltOf cmpR;by_cases h1:x.fr<y.fr
 · simp[h1]
 · by_cases h2:y.fr<x.fr<;>simp[h1,h2]
theorem swoR:Go.Sort.SWO (Go.Proofs.ltOf cmpR) where
 irrefl x:=by rw[ltR];simp
 trans x y z h1 h2:=by rw[ltR]at *;simp at *;omega
 ntrans x y z h1 h2:=by rw[ltR]at *;simp at *;omega
theorem qk0(x:Int)(w:World):Calls Tryz.prog 240 #[.int .i64 x] w fun e w'=>e=.returned (.bool false)∧w=w':=by
 go_enter Tryz.func240,Tryz.ntmps240
 go_wp2
 go_ret
 exact⟨by simp,rfl⟩
theorem kr0(x y:Int)(w:World):Calls Tryz.prog 229 #[.int .i64 x,.int .i64 y] w fun e w'=>e=.returned (.int .i64 (if x<y then -1 else if y<x then 1 else 0))∧w=w':=by
 have k:=fun x w=>qk0 x w
 have K:=Lib.hid k;clear k;by_cases h1:x<y
 · rw[if_pos h1]
   go_enter Tryz.func229,Tryz.ntmps229
   go_wp2_with (go_at_call 240;refine(K.out _ _).mono ?_;rintro e w1 ⟨rfl,rfl⟩)
   go_ret
   exact⟨rfl,rfl⟩
 · rw[if_neg h1]
   by_cases h2:y<x
   · rw[if_pos h2]
     go_enter Tryz.func229,Tryz.ntmps229
     go_wp2_with (go_at_call 240;refine(K.out _ _).mono ?_;rintro e w1 ⟨rfl,rfl⟩)
     go_ret
     exact⟨rfl,rfl⟩
   · rw[if_neg h2]
     go_enter Tryz.func229,Tryz.ntmps229
     go_wp2_with (go_at_call 240;refine(K.out _ _).mono ?_;rintro e w1 ⟨rfl,rfl⟩)
     go_ret
     exact⟨rfl,rfl⟩
theorem qv1(x y:RR)(W:World):Calls Tryz.prog 228 #[.agg x.enc.toArray,.agg y.enc.toArray] W fun e w'=>e=.returned (.int .i64 (cmpR x y))∧∃q os',w'=Go.Sort.grow (W.drewN q) os':=by
 have hcon:=fun W'=>kr0 x.fr y.fr W'
 rw[show(if x.fr<y.fr then(-1:Int)else if y.fr<x.fr then 1 else 0)=cmpR x y from rfl]at hcon;generalize cmpR x y=r at hcon ⊢;obtain⟨x0,x1,x2,x3,_⟩:=x;obtain⟨y0,y1,y2,y3,_⟩:=y;simp only[RR.enc]at hcon ⊢;have HC:=Lib.hid hcon;clear hcon
 go_enter Tryz.func228,Tryz.ntmps228
 go_wp2_with (go_at_call 229;refine(HC.out _).mono ?_;rintro e w' ⟨rfl,rfl⟩)
 go_ret
 exact⟨rfl,0,_,by rw[Go.Sort.alloc_eq_grow,Go.Sort.alloc_eq_grow,Go.Sort.grow_grow];rfl⟩
def ByFrom(X X':List RR):Prop:=X'.Perm X∧X'.Pairwise fun a b=>a.fr≤b.fr
def OwnR(w:World)(B:Nat)(v:Value)(X:List RR):Prop:=w.ownsRow B 235 4 v X.length (rcells X)
theorem OwnR.put{w:World}{B g cap q:Nat}{X:List RR}{d:Array RR}{os:Array Obj}(h:OwnR w B (.slice (some ⟨g,0,none⟩) X.length cap) X)(hd:d.size=X.length):
 OwnR (Go.Sort.grow (Go.Sort.putRow id (Go.Sort.ahead w q) g 0 (rcells d.toList).toArray) os) B (.slice (some ⟨g,0,none⟩) X.length cap) d.toList ∧
  w.grownBy (Go.Sort.grow (Go.Sort.putRow id (Go.Sort.ahead w q) g 0 (rcells d.toList).toArray) os) (some g):=by
 rcases h.2 with⟨e0,_⟩|⟨g',cap',cur,e0,hb,hg,hn,hm,hs,ht⟩
 · cases e0
 · injection e0 with e1 _ e3
   injection e1 with e1
   injection e1 with e1
   subst e1;subst e3;have hlt:g<w.heap.size:=(Array.getElem?_eq_some_iff.1 hg).1;have hl:d.toList.length=X.length:=by simpa using hd
   have hrl:=jg1 d.toList
   constructor
   · unfold OwnR
     rw[hl];refine⟨by rw[hrl,hl],.inr ⟨g,cap,Go.Sort.putCells id 0 (rcells d.toList).toArray cur,rfl,hb,?_,hn,hm,by simpa[Go.Sort.putCells]using hs,?_⟩⟩
     · show(w.heap.modify g _++os)[g]?=_
       rw[Array.getElem?_append,if_pos (by simpa using hlt),Array.getElem?_modify,if_pos rfl,hg]
       rfl
     · apply List.ext_getElem?
       intro j;rw[List.getElem?_take,Array.getElem?_toList];by_cases hj:j<X.length*4
       · have hjc:j<cur.size:=by omega
         simp only[if_pos hj,Go.Sort.putCells,Array.getElem?_mapIdx,Array.getElem?_eq_getElem hjc,Option.map_some];rw[if_pos (by simp;omega),List.getElem?_eq_getElem (by omega)];simp[getElem!_pos,show j<(rcells d.toList).length by omega]
       · rw[if_neg hj,List.getElem?_eq_none (by omega)]
   · exact⟨rfl,rfl,rfl,by simp[Go.Sort.grow,Go.Sort.putRow,Go.Sort.mapBlock,Go.Sort.ahead],fun k hk hne=>by
      have:g≠k:=fun e=>hne (by rw[e])
      show(w.heap.modify g _++os)[k]?=_;rw[Array.getElem?_append,if_pos (by simpa using hk),Array.getElem?_modify,if_neg this]⟩
theorem kw8(v:Value)(X:List RR)(B:Nat)(w:World)(hown:OwnR w B v X)(hX:X ≠ [])(hl:X.length<1073741824):
 Calls Tryz.prog 205 #[v] w fun e w'=>e=.returned (.tuple #[])∧∃X',ByFrom X X'∧OwnR w' B v X'∧w.grownBy w' v.ownBlock:=by
 rcases hown.2 with⟨_,hn⟩|⟨g,cap,cur,rfl,hb,hg,hn,hm,hs,ht⟩
 · exact absurd (List.eq_nil_of_length_eq_zero hn) hX
 have hlt:g<w.heap.size:=(Array.getElem?_eq_some_iff.1 hg).1;have hH:Go.Sort.HoldsK RR.enc 4 w g 0 X.toArray:=by
  unfold Go.Sort.HoldsK;rw[jw7];intro j hj;have hj':j<X.length*4:=by simpa[jg1]using hj
  refine⟨?_,by simp[World.frozen?,hg]⟩;have:=World.ownsRow.cellAt hown j hj';rw[Nat.zero_add,this];have hjl:j<(rcells X).length:=by rw[jg1];exact hj'
  simp[getElem!_pos,hjl]
 have eg:∀args w,(callFunc 228 args).run Tryz.prog w=.ok (.enter 228 args) w:=enters_of Tryz.func228 (by kernel_rfl) rfl;have hcon:=Go.Proofs.AnyQ.slices_SortFunc Tryz.sortRow 4 (by intro w;kernel_rfl) (by intro w;kernel_rfl) RR.enc (fun _=>rfl) (fun x=>x.one) cmpR swoR 228 #[] g 0 cap X.toArray w eg (fun _ _ _ _ x y=>qv1 x y _) hH hlt (by simp;omega);have hcon2:Calls Tryz.prog (Tryz.sortRow_ren.f 6) #[.slice (some ⟨g,0,none⟩) X.length cap,.func (.func 228) #[] #[]] w fun e w'=>e=.returned (.tuple #[])∧∃X',ByFrom X X'∧OwnR w' B (.slice (some ⟨g,0,none⟩) X.length cap) X'∧w.grownBy w' (some g):=by
  refine Calls.mono hcon ?_;rintro e w' ⟨he,d',n,os,⟨hp1,_,hp3⟩,hsrt,rfl⟩;have hd:d'.size=X.length:=by simpa using hp1
  have hw:=OwnR.put (q:=n) (os:=os) hown hd;refine⟨he,d'.toList,⟨?_,?_⟩,?_,?_⟩
  · have h1:d'.extract 0 X.toArray.size=d':=by rw[←hp1];simp
    rw[h1]at hp3;simpa using hp3
  · rw[List.pairwise_iff_getElem]
    intro i j hi hj hij;have hi':i<d'.size:=by simpa using hi
    have hj':j<d'.size:=by simpa using hj
    have:=hsrt i j (Nat.zero_le _) hij (by rw[←hp1];exact hj');rw[ltR]at this;simp only[decide_eq_false_iff_not,getElem!_pos d' i hi',getElem!_pos d' j hj']at this;simp only[Array.getElem_toList];omega
  · unfold Go.Proofs.sortWorldK Go.Sort.putRowK
    rw[jw7];exact hw.1
  · unfold Go.Proofs.sortWorldK Go.Sort.putRowK
    rw[jw7];exact hw.2
 have hcon3:Calls Tryz.prog 227 #[.slice (some ⟨g,0,none⟩) X.length cap,.func (.func 228) #[] #[]] w fun e w'=>e=.returned (.tuple #[])∧∃X',ByFrom X X'∧OwnR w' B (.slice (some ⟨g,0,none⟩) X.length cap) X'∧w.grownBy w' (some g):=hcon2
 have HC:=Lib.hid hcon3;clear hcon3;clear hcon hcon2 hH hown eg ht hs;generalize X.length=n at *
 go_enter Tryz.func205,Tryz.ntmps205
 go_wp2_with (go_at_call 227;refine HC.out.mono ?_;rintro e w' ⟨rfl,X',h1,h2,h3⟩)
 go_end0
 exact⟨rfl,X',h1,h2,h3⟩
def pieceV(fr tq ct:Int)(t:ByteArray):Value:=.agg #[.int .i64 fr,.int .i32 tq,.int .i64 ct,.string t]
theorem kj6(fr tq ct:Int)(w:World):Calls Tryz.prog 145 #[.int .i64 fr,.int .i32 tq,.int .i64 ct] w fun e w'=>e=.returned (pieceV fr tq ct ByteArray.empty)∧Below w.heap.size w w':=by
 go_enter Tryz.func145,Tryz.ntmps145
 go_wp2
 refine bodyPost_ret (v:=pieceV fr tq ct ByteArray.empty) (by simp[results,Tryz.results145,go_sem,pieceV];rfl) rfl ⟨rfl,?_⟩;exact(Below.refl _ _).alloc (Nat.le_refl _) _
theorem qb6(fr:Int)(t:ByteArray)(w:World):Calls Tryz.prog 171 #[.int .i64 fr,.string t] w fun e w'=>e=.returned (pieceV fr 0 0 t)∧Below w.heap.size w w':=by
 go_enter Tryz.func171,Tryz.ntmps171
 go_wp2
 refine bodyPost_ret (v:=pieceV fr 0 0 t) (by simp[results,Tryz.results171,go_sem,pieceV]) rfl ⟨rfl,?_⟩;exact(Below.refl _ _).alloc (Nat.le_refl _) _
theorem kn9(a b c:Int)(v:Value)(w:World)(h0:0≤a+b)(h1:a+b≤1073741824):
 Calls Tryz.prog 175 #[.agg #[.int .i64 a,.int .i64 b,.int .i32 c,v]] w fun e w'=>e=.returned (.int .i64 (a+b))∧Below w.heap.size w w':=by
 have hw:IntKind.i64.wrap (a+b)=a+b:=by rw[jf2]<;>omega
 go_enter Tryz.func175,Tryz.ntmps175
 go_wp2
 go_ret
 exact⟨by first|rfl|rw[hw],bal (Below.refl _ _) _⟩
def insideB(a b:Int):Bool:=decide (0≤a∧a<1048576∧1≤b∧b≤1048576-a)
theorem kv4(a b:Int)(w:World):Calls Tryz.prog 226 #[.int .i64 a,.int .i64 b] w fun e w'=>e=.returned (.bool (insideB a b))∧w=w':=by
 by_cases h:0≤a∧a<1048576
 · obtain⟨h0,h1⟩:=h
   go_enter Tryz.func226,Tryz.ntmps226
   go_wp2
   all_goals go_ret
   all_goals (refine⟨jg0 ?_,rfl⟩;unfold insideB;rw[Bool.eq_iff_iff];simp;omega)
 · have e:insideB a b=false:=by unfold insideB;simp;omega
   rw[e];rcases(show a<0∨(0≤a∧1048576≤a) from by omega)with h|⟨h,h'⟩
   · go_enter Tryz.func226,Tryz.ntmps226
     go_wp2
     go_ret
     exact⟨by first|rfl|simp,rfl⟩
   · go_enter Tryz.func226,Tryz.ntmps226
     go_wp2
     go_ret
     exact⟨by first|rfl|simp,rfl⟩
theorem kk3(r:RR)(c:Int)(w:World)(hok:r.Ok w)(h0:r.fr≤c)(h1:c<r.fin)(hf:0≤r.fr)(hc:r.fin≤1073741824)(ht0:0≤r.tq)(ht1:r.tq+r.ct≤1073741824)(hl:∀l,r.sg=some l→(l.length:Int)=r.ct):
 Calls Tryz.prog 176 #[.agg r.enc.toArray,.int .i64 c] w fun e w'=>e=.returned (.int .i32 (r.sign c))∧Below w.heap.size w w':=by
 obtain⟨a,b,t,ad,ln,cp,sg⟩:=r;simp only[RR.enc,RR.fin,RR.sv,RR.sign,RR.Ok]at *;cases sg with
 | none=>
  simp only at *;simp only[Value.slice.injEq]at hok;obtain⟨rfl,rfl,rfl⟩:=hok;have hw1:IntKind.i64.wrap (c-a)=c-a:=by rw[jf2]<;>omega
  go_enter Tryz.func176,Tryz.ntmps176
  go_wp2
  go_ret
  exact⟨rfl,bal (Below.refl _ _) _⟩
 | some l=>
  simp only at *;obtain⟨g,o,cap,cur,he,hlc,hcm,hblk,hcells⟩:=hok;simp only[Value.slice.injEq]at he;obtain⟨rfl,rfl,rfl⟩:=he;have hll:=hl l rfl;obtain⟨k,hk⟩:∃k:Nat,c-a=(k:Int):=⟨(c-a).toNat,by omega⟩;have hkl:k<l.length:=by omega
  have hget:(icells l)[k]?=some (.int .i32 (l.getD k 0)):=by
   rw[jx3 l k (l.getD k 0)];simp[List.getD,hkl]
  have hcell:w.cell? ⟨g,o+k,none⟩=some (.int .i32 (l.getD k 0)):=by rw[cell_of_row w g (o+k) cur _ _ hblk];exact hcells k _ hget
  clear hblk;have hcX:∀X,(w.alloc X).cell? ⟨g,o+k,none⟩=some (.int .i32 (l.getD k 0)):=fun X=>kc ((Below.refl _ _).alloc (Nat.le_refl _) X) hcell
  obtain rfl:c=a+k:=by omega
  rw[show(a+(k:Int)-a).toNat=k from by omega];have hsub:a+(k:Int)-a=k:=by omega
  generalize l.getD k 0=q at *;generalize l.length=n at *;clear hcells hl hget hk;have hn64:n≤1073741824:=by omega
  go_enter Tryz.func176,Tryz.ntmps176
  go_wp2
  go_ret
  exact⟨rfl,bal (Below.refl _ _) _⟩
structure RP where
 fr:Int
 ct:Int
 tq:Int
 sg:Option (List Int)
def RR.pl(r:RR):RP:=⟨r.fr,r.ct,r.tq,r.sg⟩
structure PC where
 fr:Int
 tq:Int
 ct:Int
 tx:ByteArray
def PC.val(p:PC):Value:=pieceV p.fr p.tq p.ct p.tx
def PC.row(p:PC):RP:=if p.tx.size=0 then⟨p.fr,p.ct,p.tq,none⟩else⟨p.fr,(pts (bl p.tx)).length,0,some (pts (bl p.tx))⟩
def PC.Right(p:PC):Prop:=
 if p.tx.size=0 then insideB p.fr p.ct=true∧scalar p.tq=true∧scalar (p.tq+(p.ct-1))=true∧(p.tq<55296↔p.tq+(p.ct-1)<55296)
 else p.tx.size≤1073741824∧(∃n,scanL (bl p.tx)=(n,none)∧insideB p.fr n=true)
def RowPost(p:PC)(w:World)(e:Ending)(w':World):Prop:=∃r:RR,e=.returned (.tuple #[.agg r.enc.toArray,.bool true])∧r.pl=p.row∧r.Ok w'∧Below w.heap.size w w'
theorem prow_seq(fr tq ct:Int)(w:World)(hp:(PC.mk fr tq ct ByteArray.empty).Right):Calls Tryz.prog 204 #[pieceV fr tq ct ByteArray.empty] w (RowPost ⟨fr,tq,ct,ByteArray.empty⟩ w):=by
 obtain⟨h1,h2,h3,h4⟩:insideB fr ct=true∧scalar tq=true∧scalar (tq+(ct-1))=true∧(tq<55296↔tq+(ct-1)<55296):=hp;have hi:0≤fr∧fr<1048576∧1≤ct∧ct≤1048576-fr:=by simpa[insideB]using h1
 obtain⟨i0,i1,i2,i3⟩:=hi;obtain⟨s0,s1⟩:=qg0 tq h2;have c1:=fun w=>kv4 fr ct w
 have c2:=fun w=>jz7 tq w
 have c3:=fun w=>jz7 (tq+(ct-1)) w
 rw[h1]at c1;rw[h2]at c2;rw[h3]at c3;have e1:IntKind.i32.wrap (ct-1)=ct-1:=by rw[wraps_i32]<;>omega
 have e2:IntKind.i32.wrap (tq+(ct-1))=tq+(ct-1):=by rw[wraps_i32]<;>omega
 have hgap:decide (tq<55296)=decide (tq+(ct-1)<55296):=by rw[Bool.eq_iff_iff];simpa using h4
 have hfin:∀e w',(∃r:RR,e=.returned (.tuple #[.agg r.enc.toArray,.bool true])∧r.pl=⟨fr,ct,tq,none⟩∧r.Ok w'∧Below w.heap.size w w')→RowPost ⟨fr,tq,ct,ByteArray.empty⟩ w e w':=fun e w' h=>h
 have C1:=Lib.hid c1;have C2:=Lib.hid c2;have C3:=Lib.hid c3;have HF:=Lib.hid hfin;have H4:=Lib.hid h4;have HG:=Lib.hid hgap;have H1:=Lib.hid h1;have H2:=Lib.hid h2;have H3:=Lib.hid h3;clear c1 c2 c3 hfin h4 hgap h1 h2 h3;unfold pieceV;by_cases hg:tq<55296
 · have hg2:tq+(ct-1)<55296:=H4.out.1 hg
   go_enter Tryz.func204,Tryz.ntmps204
   go_wp2_with (first
    | (go_at_call 226;refine(C1.out _).mono ?_;rintro e w1 ⟨rfl,rfl⟩)
    | (go_at_call_of 181 (Value.int .i32 tq);refine(C2.out _).mono ?_;rintro e w1 ⟨rfl,rfl⟩)
    | (go_at_call 181;refine(C3.out _).mono ?_;rintro e w1 ⟨rfl,rfl⟩))
   refine bodyPost_ret (v:=.tuple #[.agg #[.int .i64 fr,.int .i64 ct,.int .i32 tq,.slice none 0 0],.bool true]) (by simp[results,Tryz.results204,go_sem]) rfl ?_;exact HF.out _ _ ⟨⟨fr,ct,tq,none,0,0,none⟩,rfl,rfl,rfl,bal (bal (Below.refl _ _) _) _⟩
 · have hg2:¬tq+(ct-1)<55296:=fun h=>hg (H4.out.2 h)
   have hd1:decide (tq<55296)=false:=by simpa using hg
   have hd2:decide (tq+(ct-1)<55296)=false:=by simpa using hg2
   go_enter Tryz.func204,Tryz.ntmps204
   go_wp2_with (first
    | (go_at_call 226;refine(C1.out _).mono ?_;rintro e w1 ⟨rfl,rfl⟩)
    | (go_at_call_of 181 (Value.int .i32 tq);refine(C2.out _).mono ?_;rintro e w1 ⟨rfl,rfl⟩)
    | (go_at_call 181;refine(C3.out _).mono ?_;rintro e w1 ⟨rfl,rfl⟩))
   refine bodyPost_ret (v:=.tuple #[.agg #[.int .i64 fr,.int .i64 ct,.int .i32 tq,.slice none 0 0],.bool true]) (by simp[results,Tryz.results204,go_sem]) rfl ?_;exact HF.out _ _ ⟨⟨fr,ct,tq,none,0,0,none⟩,rfl,rfl,rfl,bal (bal (Below.refl _ _) _) _⟩
theorem vv2(fr:Int)(tx:ByteArray)(w:World)(hT:TW w)(h0:tx.size≠0)(hp:(PC.mk fr 0 0 tx).Right):Calls Tryz.prog 204 #[pieceV fr 0 0 tx] w (RowPost ⟨fr,0,0,tx⟩ w):=by
 obtain⟨hs,n,hn,h1⟩:tx.size≤1073741824∧(∃n,scanL (bl tx)=(n,none)∧insideB fr n=true):=by
  unfold PC.Right at hp
  rwa [if_neg h0]at hp
 have hi:0≤fr∧fr<1048576∧1≤(n:Int)∧(n:Int)≤1048576-fr:=by simpa[insideB]using h1
 obtain⟨i0,i1,i2,i3⟩:=hi;have hlen:n=(pts (bl tx)).length:=jn0 _ _ hn;have c1:=fun w=>kv4 fr n w
 have c2:∀w,TW w→Calls Tryz.prog 183 #[.string tx] w fun e w'=>e=.returned (.int .i64 n)∧Below w.heap.size w w':=fun w hT=>by
  have:=qn3 tx w hT (by omega)
  rwa [hn]at this
 have c3:∀w,TW w→Calls Tryz.prog 160 #[.string tx] w fun e w'=>∃g cap,e=.returned (.tuple #[.slice (some ⟨g,0,none⟩) n cap,.agg #[.int .i64 0,.int .i64 0]])∧n≤cap∧cap≤maxLen∧w.heap.size≤g ∧
  (∃cur,w'.heap[g]?=some (.cells cur 21 (0,0))∧∀(j:Nat) (x:Value),(icells (pts (bl tx)))[j]?=some x→cur[0+j]?=some x)∧Below w.heap.size w w':=fun w hT=>
  (ks7 tx w hT hs).mono fun e w' ⟨v,he,ho,hb⟩=>by
    rw[hn,if_pos rfl]at ho;rcases ho.2 with⟨_,hz⟩|⟨g,cap,cur,rfl,hgb,hh,hnc,hcm,hcs,htk⟩
    · omega
    · refine⟨g,cap,by rw[he,hn,hlen];rfl,by omega,hcm,hgb,⟨cur,hh,fun j x hj=>?_⟩,hb⟩
      rw[←htk,List.getElem?_take]at hj;split at hj
      · rw[Nat.zero_add];simpa using hj
      · cases hj
 rw[h1]at c1;have hfin:∀e w',(∃r:RR,e=.returned (.tuple #[.agg r.enc.toArray,.bool true])∧r.pl=⟨fr,n,0,some (pts (bl tx))⟩∧r.Ok w'∧Below w.heap.size w w')→RowPost ⟨fr,0,0,tx⟩ w e w':=fun e w' ⟨r,h2,h3,h4⟩=>by
  refine⟨r,h2,?_,h4⟩;rw[h3,PC.row,if_neg h0,hlen]
 obtain⟨L,hL⟩:∃L,L=pts (bl tx):=⟨_,rfl⟩;rw[←hL]at c3 hfin hlen;have hne:tx.toList ≠ []:=by
  intro e;apply h0;rw[ByteArray.toList_eq]at e;have:=congrArg List.length e;show tx.data.size=0;simpa using this
 have hne2:(!tx.toList.isEmpty)=true:=by simpa using hne
 have l0:=fun W=>Live.fresh W #[.int .i64 0,.int .i64 0,.int .i32 0,.slice none 0 0] 235 0 _ rfl
 have l1:=fun W=>Live.fresh W #[.int .i64 0,.int .i64 0,.int .i32 0,.slice none 0 0] 235 1 _ rfl
 have l2:=fun W=>Live.fresh W #[.int .i64 0,.int .i64 0,.int .i32 0,.slice none 0 0] 235 2 _ rfl
 have l3:=fun W=>Live.fresh W #[.int .i64 0,.int .i64 0,.int .i32 0,.slice none 0 0] 235 3 _ rfl
 have C1:=Lib.hid c1;have C2:=Lib.hid c2;have C3:=Lib.hid c3;have HF:=Lib.hid hfin;have HNE:=Lib.hid hne2;have L0:=Lib.hid l0;have L1:=Lib.hid l1;have L2:=Lib.hid l2;have L3:=Lib.hid l3;have HN:=Lib.hid hlen;have H0:=Lib.hid h0;clear c1 c2 c3 hfin hne2 l0 l1 l2 l3 hlen h0;clear hL hn hp h1 hne;unfold pieceV;have hb2:=HNE.out;have hTT:∀X Y,TW ((w.alloc X).alloc Y):=fun X Y=>(hT.alloc X).alloc Y
 have hT2:=Lib.hid hTT;clear hTT hT;obtain⟨W0,hW0⟩:∃W0,W0=(w.alloc (.cells #[.int .i64 fr,.int .i32 0,.int .i64 0,.string tx] 200)).alloc (.cells #[.int .i64 0,.int .i64 0,.int .i32 0,.slice none 0 0] 235):=⟨_,rfl⟩;have p0:W0.cell? ⟨w.heap.size,0,none⟩=some (.int .i64 fr):=by rw[hW0];go_simp
 have p3:W0.cell? ⟨w.heap.size,3,none⟩=some (.string tx):=by rw[hW0];go_simp
 have hsz:(w.alloc (.cells #[.int .i64 fr,.int .i32 0,.int .i64 0,.string tx] 200)).heap.size=w.heap.size+1:=World.size_alloc _ _;have m0:Live W0 (w.heap.size+1) 0 (.int .i64 0):=by rw[hW0,←hsz];clear hsz hW0;exact L0.out _
 have m1:Live W0 (w.heap.size+1) 1 (.int .i64 0):=by rw[hW0,←hsz];clear hsz hW0;exact L1.out _
 have m2:Live W0 (w.heap.size+1) 2 (.int .i32 0):=by rw[hW0,←hsz];clear hsz hW0;exact L2.out _
 have m3:Live W0 (w.heap.size+1) 3 (.slice none 0 0):=by rw[hW0,←hsz];clear hsz hW0;exact L3.out _
 have hTW:TW W0:=by rw[hW0];exact hT2.out _ _
 have hbW:Below w.heap.size w W0:=by rw[hW0];exact bal (bal (Below.refl _ _) _) _
 clear hsz;have HW0:=Lib.hid hW0;have P0:=Lib.hid p0;have P3:=Lib.hid p3;have M0:=Lib.hid m0;have M1:=Lib.hid m1;have M2:=Lib.hid m2;have M3:=Lib.hid m3;have HTW:=Lib.hid hTW;have HBW:=Lib.hid hbW;clear hW0 p0 p3 m0 m1 m2 m3 hTW hbW
 go_enter Tryz.func204,Tryz.ntmps204
 go_wp2_with fail
 rw[←HW0.out];refine(C2.out _ HTW.out).mono ?_;rintro e w1 ⟨rfl,hb1⟩;have q0:=kc hb1 P0.out;have q3:=kc hb1 P3.out;have hTW1:=HTW.out.bel hb1
 go_wp2_with (go_at_call 226;refine(C1.out _).mono ?_;rintro e w3 ⟨rfl,rfl⟩)
 refine(C3.out _ hTW1).mono ?_;rintro e w2 ⟨g,cap,rfl,hc1,hc2,hgw,hc3,hb2⟩;have r0:=kc hb2 q0;obtain⟨g0,f0⟩:=(M0.out.keep hb1).keep hb2;obtain⟨g1,f1⟩:=(M1.out.keep hb1).keep hb2;obtain⟨g2,f2⟩:=(M2.out.keep hb1).keep hb2;obtain⟨g3,f3⟩:=(M3.out.keep hb1).keep hb2;have hlt:w.heap.size+1<w2.heap.size:=((M0.out.keep hb1).keep hb2).lt;have hlt0:w.heap.size<w2.heap.size:=by omega
 have HC3:=Lib.hid hc3;clear hc3;clear q0 q3
 go_wp2_with fail
 refine bodyPost_ret (v:=.tuple #[.agg #[.int .i64 fr,.int .i64 n,.int .i32 0,.slice (some ⟨g,0,none⟩) n cap],.bool true]) (by simp[results,Tryz.results204,go_sem,g0,g1,g2,g3,f0,f1,f2,f3,hlt]) rfl ?_;have hlt1:w.heap.size+1<w1.heap.size:=(M0.out.keep hb1).lt;have hbo:Below w.heap.size w w2:=(HBW.out.trans (hb1.mono HBW.out.size)).trans (hb2.mono ((HBW.out.trans (hb1.mono HBW.out.size)).size));refine HF.out _ _ ⟨⟨fr,n,0,some ⟨g,0,none⟩,n,cap,some L⟩,rfl,rfl,?_,?_⟩
 · obtain⟨cur,hh,hc⟩:=HC3.out
   refine⟨g,0,cap,cur,by rw[HN.out];rfl,by rw[←HN.out];exact hc1,hc2,?_,hc⟩;have hne:g≠w.heap.size+1:=by omega
   have hgl:g<w2.heap.size:=(Array.getElem?_eq_some_iff.1 hh).1;rw[((Below.refl _ _).alloc (Nat.le_refl _) _).block g (by simpa using hgl),Below.heap_setCell _ _ _ _ hne,Below.heap_setCell _ _ _ _ hne,Below.heap_setCell _ _ _ _ hne,Below.heap_setCell _ _ _ _ hne];exact hh
 · exact bal ((((hbo.setCell (Nat.le_succ _) _).setCell (Nat.le_succ _) _).setCell (Nat.le_succ _) _).setCell (Nat.le_succ _) _) _
theorem xf5(w:World)(row:Option Nat):w.grownBy w row:=⟨rfl,rfl,rfl,Nat.le_refl _,fun _ _ _=>rfl⟩
theorem jt9{w a b:World}{row:Option Nat}(h:w.grownBy a row)(k:a.grownBy b row):w.grownBy b row:=
 ⟨k.os.trans h.os,k.tape.trans h.tape,k.output.trans h.output,Nat.le_trans h.size k.size,fun i hi hne=>(k.block i (Nat.lt_of_lt_of_le hi h.size) hne).trans (h.block i hi hne)⟩
theorem kh3{w a:World}(h:Below w.heap.size w a)(row:Option Nat):w.grownBy a row:=⟨h.os,h.tape,h.output,h.size,fun i hi _=>h.block i hi⟩
theorem kb4{w:World}{B B':Nat}{e e':TypeId}{s s' n n':Nat}{v v':Value}{cs cs':List Value}(h:w.ownsRow B e s v n cs)(h':w.ownsRow B' e' s' v' n' cs')(hne:e≠e'):∀k,v.ownBlock=some k→v'.ownBlock≠some k:=by
 intro k hk hk';rcases h.2 with⟨rfl,_⟩|⟨g,cap,cur,rfl,_,hh,_⟩
 · simp[Value.ownBlock]at hk
 · rcases h'.2 with⟨rfl,_⟩|⟨g',cap',cur',rfl,_,hh',_⟩
   · simp[Value.ownBlock]at hk'
   · simp only[Value.ownBlock,Option.some.injEq]at hk hk'
     subst hk hk';rw[hh]at hh';simp at hh';exact hne hh'.2
theorem qr7{w w':World}{B:Nat}{e:TypeId}{s n:Nat}{v:Value}{cs:List Value}{row:Option Nat}(h:w.ownsRow B e s v n cs)(hg:w.grownBy w' row)(hne:∀k,v.ownBlock=some k→row≠some k):w'.ownsRow B e s v n cs:=
 jb5 h fun k hk=>hg.block k (jb7 h k hk).2 (fun e=>hne k hk e.symm)
theorem kd0{w w':World}{b o:Nat}{v:Value}{row:Option Nat}(h:w.cell? ⟨b,o,none⟩=some v)(hg:w.grownBy w' row)(hne:row≠some b):w'.cell? ⟨b,o,none⟩=some v:=by
 unfold World.cell? at *;rw[hg.block b (jd2 h) (fun e=>hne e.symm)];exact h
theorem jz0{w w':World}{b o:Nat}{v:Value}{row:Option Nat}(h:w.cell? ⟨b,o,none⟩=some v)(hf:w.frozen? ⟨b,o,none⟩=false)(hg:w.grownBy w' row)(hne:row≠some b):w'.frozen? ⟨b,o,none⟩=false:=by
 unfold World.frozen? at *;rw[hg.block b (jd2 h) (fun e=>hne e.symm)];exact hf
theorem vh1{w w':World}{r:RR}{B:Nat}{e:TypeId}{s n:Nat}{v:Value}{cs:List Value}(h:r.Ok w)(hg:w.grownBy w' v.ownBlock)(ho:w.ownsRow B e s v n cs)(hne:e≠21):r.Ok w':=
 h.blk fun k cur hk=>hg.block k (Array.getElem?_eq_some_iff.1 hk).1 fun e1=>by
  rcases ho.2 with⟨rfl,_⟩|⟨g,cap,cur',rfl,_,hh,_⟩
  · simp[Value.ownBlock]at e1
  · simp only[Value.ownBlock,Option.some.injEq]at e1
    subst e1;rw[hh]at hk;simp at hk;exact hne hk.2
end Go.Proofs.YtagjkmkmphamoaaGreatDoor
