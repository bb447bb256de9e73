/- P8 -/
import Derived.Lib.AppendZerosOnto
import Derived.Lib.OwnBridge
import Derived.Test.YtndlekaahjccdaaGreatDoorP7
set_option linter.all false
set_option maxRecDepth 100000
set_option maxHeartbeats 40000000
set_option maxHeartbeats 2000000
namespace Go.Proofs.YtndlekaahjccdaaGreatDoor
open Go.RowKit Go.Proofs.Tryz
section
variable {P:Program} {ops:Array Oper} {rest:List Oper} {o:Oper} {a:Act} {Q:Exit->Act->World->Prop}
theorem y1v(w:World)(t tn ty e:TypeId)(i:TypeInfo)(z:Value)(kq kn:IntKind)(ht:P.underlying t=some (.slice e))(Hc:P.underlying tn=some (.int kn))(hi:P.info? e=some i)(hz:i.zero=some z)(hs:i.size=1)
 (Hb:z.cells=#[z]) (Hd:z.oneCell'=true)
 (g sLen sCap:Nat) (cur:Array Value) (hg:w.heap[g]?=some (.cells cur e (0,0))) (k:Nat) (h0:0<k) (H5:sLen+k<=sCap) (H7:sLen+k<=cur.size) (He:(k:Int)<=9223372036854775807) (Hf:k*i.bytes<=281474976710656):
 (Builtin.append_ #[t,tn] ty #[.slice (some ⟨g,0,none⟩) sLen sCap,.int kq k]).run P w =
  .ok (.slice (some ⟨g,0,none⟩) (sLen+k) sCap) (w.setRow g (cur.toList.take sLen++List.replicate k z++cur.toList.drop (sLen+k)).toArray):=by
 have hk:k≠0:=by omega
 have hw:IntKind.i64.wrap (k:Int)=k:=by rw[IntKind.wrap_i64];omega
 have H8:¬(281474976710656<(k:Int)*(i.bytes:Int)):=by
  rw[<-Int.natCast_mul];omega
 have H6:¬((k:Int)<0):=by omega
 have Ha:(Builtin.zeroCells #[z] k).toList=List.replicate k z:=by
  apply List.ext_getElem
  . simp[Builtin.zeroCells]
  . intro n h1 h2
    simp[Builtin.zeroCells,Nat.mod_one]
 have H9:=run_storeCells_at P g sLen e (List.replicate k z) 0 cur w hg (by simpa using H7) (by intro u hu;rw[List.eq_of_mem_replicate hu];exact Hd);simp only[Nat.add_zero,List.length_replicate]at H9;simp[Builtin.append_,run_underlying ht,run_underlying Hc,sizeOf,typeInfo,zeroValue,hi,hz,asInt,asIntOf,hw,H6,H8,hs,hk,H5,Hb,Ha,Addr.add_lit,H9]
theorem y2Z(w:World)(base:Nat)(t tn ty e:TypeId)(z:Value)(bytes:Nat)(kq kn:IntKind)(ht:P.underlying t=some (.slice e))(Hc:P.underlying tn=some (.int kn))
 (hi:(P.info? e).map (fun i=>(i.zero,i.size,i.bytes))=some (some z,1,bytes)) (Hg:z.cells=#[z]) (Hk:z.oneCell'=true)
 (v:Value) (n:Nat) (xs:List Value) (H5:w.ownsRow base e 1 v n xs) (k:Nat) (h0:0<k) (Hi:n+k<=maxLen) (H9:(n+k)*bytes<=140737488355328) (Hb:base<=w.heap.size):
 ∃v' w',(Builtin.append_ #[t,tn] ty #[v,.int kq k]).run P w=.ok v' w'/\w'.ownsRow base e 1 v' (n+k) (xs++List.replicate k z)/\w.grownBy w' v.ownBlock:=by
 obtain⟨i,Hh,hz,hs,Hn⟩:=info_parts hi;clear hi;have hi:=Hh;clear Hh;subst Hn;have H6:(xs++List.replicate k z).length=(n+k)*1:=by have:=H5.1;simp;omega
 have Hf:∀m,(Builtin.zeroCells z.cells m).toList=List.replicate m z:=by
  intro m;rw[Hg];apply List.ext_getElem
  . simp[Builtin.zeroCells]
  . intro n h1 h2
    simp[Builtin.zeroCells,Nat.mod_one]
 have Hj:∀m,(Builtin.zeroCells z.cells m).size=m:=fun m=>by have:=congrArg List.length (Hf m);simpa using this
 have Hp:n+k<=9223372036854775807:=by simp only[maxLen]at Hi;omega
 have Hd:k*i.bytes<=281474976710656:=zE (Nat.mul_le_mul_right _ (Nat.le_add_left k n)) (by omega);have grown:∀(old:Nat) (row:Option Nat),
  (w.drew.alloc (.cells (xs.toArray++Builtin.zeroCells z.cells k++Builtin.zeroCells z.cells (grownCap w (n+k) old e-(n+k))) e)).ownsRow base e 1
   (.slice (some ⟨w.heap.size,0,none⟩) (n+k) (grownCap w (n+k) old e)) (n+k) (xs++List.replicate k z) /\
  w.grownBy (w.drew.alloc (.cells (xs.toArray++Builtin.zeroCells z.cells k++Builtin.zeroCells z.cells (grownCap w (n+k) old e-(n+k))) e)) row:=by
  intro old row;have Hm:=grownCap_ge w (n+k) old e;have He:grownCap w (n+k) old e<=maxLen:=grownCap_le_maxLen w (n+k) old e Hi;refine⟨⟨H6,.inr ⟨w.heap.size,_,_,rfl,Hb,heap_alloc_new w.drew _,Hm,He,?_,?_⟩⟩,⟨rfl,rfl,rfl,by simp,fun j hj _=>heap_alloc_old w.drew _ hj⟩⟩
  . simp only[Array.size_append,List.size_toArray,Hj,H5.1];omega
  . simp only[Array.toList_append,Hf]
    rw[<-H6];exact List.take_left
 rcases H5.2 with⟨rfl,rfl⟩|⟨g,cap,cur,rfl,Ho,hg,Hq,He,Hr,H7⟩
 . have hx:xs = []:=List.eq_nil_of_length_eq_zero (by simpa using H5.1)
   subst hx;have hr:=Lib.run_append_nil_zeros (P:=P) w t tn ty e i z kq kn ht Hc hi hz k h0 (by omega) (by omega) Hd;have Ha:=grown 0 (Value.ownBlock (.slice none 0 0));simp only[Nat.zero_add,List.nil_append,Array.empty_append]at Ha ⊢;exact⟨_,_,hr,Ha.1,Ha.2⟩
 . by_cases H8:n+k<=cap
   . have hr:=y1v (P:=P) w t tn ty e i z kq kn ht Hc hi hz hs Hg Hk g n cap cur hg k h0 H8 (by omega) (by omega) Hd
     refine⟨_,_,hr,⟨H6,.inr ⟨g,cap,_,rfl,Ho,setRow_heap w g cur _ e _ hg,H8,He,?_,?_⟩⟩,⟨rfl,rfl,rfl,by simp,fun k hk Hl=>setRow_other w g k _ (fun e=>Hl (by simp[Value.ownBlock,e]))⟩⟩
     . simp only[List.size_toArray,zH,List.length_take,List.length_drop,Array.length_toList,List.length_replicate]
       omega
     . rw[Nat.mul_one]at H7
       rw[H7,<-H6];exact List.take_left
   . have holds:∀j u,xs[j]?=some u->w.drew.cell? ((⟨g,0,none⟩:Addr).add j)=some u:=H5.cells (g:=g) rfl
     have hold:=run_firstCells_some (P:=P) w.drew i.size n ⟨g,0,none⟩ n cap xs (by rw[hs];exact H5.1) holds;have hr:=Lib.run_append_grow_zeros (P:=P) w t tn ty e i z kq kn ht Hc hi hz (some ⟨g,0,none⟩) n cap xs hold k h0 (by omega) (by omega) (by omega) Hd (growslice_fits (by omega) H9);have Ha:=grown cap (Value.ownBlock (.slice (some ⟨g,0,none⟩) n cap));exact⟨_,_,hr,Ha.1,Ha.2⟩
theorem y2h(Ha:o.guard=none)(s x:Operand)(t tn e:TypeId)(ho:o.op=.call { callee:=.builtin .append,args:=#[s,x],argTypes:=#[t,tn] })(kn:IntKind)
 (ht:P.underlying t=some (.slice e)) (H8:P.underlying tn=some (.int kn)) (z:Value) (bytes:Nat)
 (hi:(P.info? e).map (fun i=>(i.zero,i.size,i.bytes))=some (some z,1,bytes)) (H7:z.cells=#[z]) (H9:z.oneCell'=true)
 (w:World) (B:Nat) (v:Value) (n:Nat) (xs:List Value) (hs:a.eval s=v) (H6:w.ownsRow B e 1 v n xs) (kq:IntKind) (k:Nat) (hx:a.eval x=.int kq k) (h0:0<k) (Hb:n+k<=maxLen) (H5:(n+k)*bytes<=140737488355328) (hB:B<=w.heap.size)
 (h:∀v' w',w'.ownsRow B e 1 v' (n+k) (xs++List.replicate k z)->w.grownBy w' v.ownBlock->wpList P ops Q rest (a.put o.dst v') w'):wpList P ops Q (o::rest) a w:=by
 obtain⟨v',w',hr,h2,h3⟩:=y2Z (P:=P) w B t tn o.type e z bytes kq kn ht H8 hi H7 H9 v n xs H6 k h0 Hb H5 hB;exact Lib.wpList_append_run w Ha s x t tn ho v (.int kq k) hs hx v' w' hr (h v' w' h2 h3)
end
structure RR where
 fr:Int
 ct:Int
 tq:Int
 ad:Option Addr
 ln:Nat
 cp:Nat
 sg:Option (List Int)
instance:Inhabited RR:=⟨⟨0,0,0,none,0,0,none⟩⟩
def RR.sv(r:RR):Value:=.slice r.ad r.ln r.cp
def RR.enc(r:RR):List Value:=[.int .i64 r.fr,.int .i64 r.ct,.int .i32 r.tq,r.sv]
def RR.fin(r:RR):Int:=r.fr+r.ct
def RR.sign(r:RR)(c:Int):Int:=match r.sg with|some l=>l.getD (c-r.fr).toNat 0|none=>r.tq+(c-r.fr)
def RR.Ok(w:World)(r:RR):Prop:=match r.sg with
 | none=>r.sv=.slice none 0 0
 | some l=>∃g o cap cur,r.sv=.slice (some ⟨g,o,none⟩) l.length cap/\l.length<=cap/\cap<=maxLen/\w.heap[g]?=some (.cells cur 21 (0,0))/\∀(j:Nat) (x:Value),(icells l)[j]?=some x->cur[o+j]?=some x
theorem RR.Ok.blk{w w':World}{r:RR}(h:r.Ok w)(hb:∀(k:Nat) (cur:Array Value),w.heap[k]?=some (Obj.cells cur 21 (0,0))->w'.heap[k]?=w.heap[k]?):r.Ok w':=by
 unfold RR.Ok at *;cases hs:r.sg with
 | none=>rw[hs]at h;exact h
 | some l=>
  rw[hs]at h;obtain⟨g,o,cap,cur,e,h1,h2,h3,h4⟩:=h;exact⟨g,o,cap,cur,e,h1,h2,(hb g cur h3).trans h3,h4⟩
theorem RR.Ok.keep{w w':World}{r:RR}(h:r.Ok w)(hb:Below w.heap.size w w'):r.Ok w':=h.blk fun k cur hk=>hb.block k (Array.getElem?_eq_some_iff.1 hk).1
def rcells(X:List RR):List Value:=X.flatMap RR.enc
theorem y0e(X Y:List RR):rcells (X++Y)=rcells X++rcells Y:=by simp[rcells]
theorem y0H(X:List RR):(rcells X).length=X.length*4:=by
 induction X with
 | nil=>rfl
 | cons r X ih=>rw[rcells,List.flatMap_cons,zH,<-rcells,ih];simp[RR.enc];omega
theorem y1x(X:List RR)(i:Nat)(r:RR)(h:X[i]?=some r)(j:Nat)(hj:j<4):(rcells X)[i*4+j]?=r.enc[j]?:=by
 induction X generalizing i with
 | nil=>simp at h
 | cons x X ih=>
  rw[rcells,List.flatMap_cons,<-rcells];cases i with
  | zero=>
   simp only[List.getElem?_cons_zero,Option.some.injEq]at h;subst h;rw[List.getElem?_append_left (by simp[RR.enc];omega)];simp
  | succ i=>
   rw[List.getElem?_append_right (by simp[RR.enc];omega)];rw[show(i+1)*4+j-x.enc.length=i*4+j from by simp[RR.enc];omega];exact ih i (by simpa using h)
theorem RR.one(r:RR):∀u∈r.enc,u.oneCell'=true:=by
 intro u hm;simp only[RR.enc,List.mem_cons,List.not_mem_nil,or_false]at hm;rcases hm with rfl|rfl|rfl|rfl
 all_goals rfl
theorem y2q(d:Array RR):Go.Sort.flatK RR.enc 4 d=(rcells d.toList).toArray:=by
 refine Go.Sort.ext_get! (by simp[y0H]) fun t ht=>?_
 have H5:t<d.size*4:=by simpa using ht
 rw[Go.Sort.get_flatK _ _ _ _ H5];have hi:t/4<d.size:=by omega
 have hx:d.toList[t/4]?=some d[t/4]!:=by simp[hi]
 have h1:=y1x d.toList (t/4) _ hx (t%4) (by omega);rw[show t/4*4+t%4=t from by omega]at h1;have hl:(d[t/4]!).enc.length=4:=rfl;have h2:(d[t/4]!).enc[t%4]?=some ((d[t/4]!).enc[t%4]!):=by
  have:t%4<(d[t/4]!).enc.length:=by rw[hl];omega
  rw[List.getElem?_eq_getElem this];simp[this]
 rw[h2]at h1;have h3:t<(rcells d.toList).length:=(List.getElem?_eq_some_iff.1 h1).1;simp only[List.getElem!_toArray];rw[getElem!_pos _ t h3,(List.getElem?_eq_some_iff.1 h1).2]
def cmpR(a b:RR):Int:=if a.fr<b.fr then -1 else if b.fr<a.fr then 1 else 0
theorem ltR(x y:RR):Go.Proofs.ltOf cmpR x y=decide (x.fr<y.fr):=by
 unfold Go.Proofs.ltOf cmpR;by_cases h1:x.fr<y.fr
 . simp[h1]
 . by_cases h2:y.fr<x.fr<;>simp[h1,h2]
theorem swoR:Go.Sort.SWO (Go.Proofs.ltOf cmpR) where
 irrefl x:=by rw[ltR];simp
 trans x y z h1 h2:=by rw[ltR]at *;simp at *;omega
 ntrans x y z h1 h2:=by rw[ltR]at *;simp at *;omega
theorem y8l(x:Int)(w:World):Calls prog 412 #[.int .i64 x] w fun e w'=>e=.returned (.bool false)/\w=w':=by
 go_enter func412,ntmps412
 go_wp2
 go_ret
 exact⟨by simp,rfl⟩
theorem y65(x y:Int)(w:World):Calls prog 403 #[.int .i64 x,.int .i64 y] w fun e w'=>e=.returned (.int .i64 (if x<y then -1 else if y<x then 1 else 0))/\w=w':=by
 have k:=fun x w=>y8l x w
 have K:=z7 k;clear k;by_cases h1:x<y
 . rw[if_pos h1]
   go_enter func403,ntmps403
   go_wp2_with (go_at_call 412;refine(K.out _ _).mono ?_;rintro e w1 ⟨rfl,rfl⟩)
   go_ret
   exact⟨rfl,rfl⟩
 . rw[if_neg h1]
   by_cases h2:y<x
   . rw[if_pos h2]
     go_enter func403,ntmps403
     go_wp2_with (go_at_call 412;refine(K.out _ _).mono ?_;rintro e w1 ⟨rfl,rfl⟩)
     go_ret
     exact⟨rfl,rfl⟩
   . rw[if_neg h2]
     go_enter func403,ntmps403
     go_wp2_with (go_at_call 412;refine(K.out _ _).mono ?_;rintro e w1 ⟨rfl,rfl⟩)
     go_ret
     exact⟨rfl,rfl⟩
theorem yAY(x y:RR)(W:World):Calls prog 402 #[.agg x.enc.toArray,.agg y.enc.toArray] W fun e w'=>e=.returned (.int .i64 (cmpR x y))/\∃q os',w'=Go.Sort.grow (W.drewN q) os':=by
 have H5:=fun W'=>y65 x.fr y.fr W'
 rw[show(if x.fr<y.fr then(-1:Int)else if y.fr<x.fr then 1 else 0)=cmpR x y from rfl]at H5;generalize cmpR x y=r at H5 ⊢;obtain⟨x0,x1,x2,x3,_⟩:=x;obtain⟨y0,y1,y2,y3,_⟩:=y;simp only[RR.enc]at H5 ⊢;have HC:=z7 H5;clear H5
 go_enter func402,ntmps402
 go_wp2_with (go_at_call 403;refine(HC.out _).mono ?_;rintro e w' ⟨rfl,rfl⟩)
 go_ret
 exact⟨rfl,0,_,by rw[Go.Sort.alloc_eq_grow,Go.Sort.alloc_eq_grow,Go.Sort.grow_grow];rfl⟩
def ByFrom(X X':List RR):Prop:=X'.Perm X/\X'.Pairwise fun a b=>a.fr<=b.fr
def OwnR(w:World)(B:Nat)(v:Value)(X:List RR):Prop:=w.ownsRow B 350 4 v X.length (rcells X)
theorem OwnR.put{w:World}{B g cap q:Nat}{X:List RR}{d:Array RR}{os:Array Obj}(h:OwnR w B (.slice (some ⟨g,0,none⟩) X.length cap) X)(hd:d.size=X.length):
 OwnR (Go.Sort.grow (Go.Sort.putRow id (Go.Sort.ahead w q) g 0 (rcells d.toList).toArray) os) B (.slice (some ⟨g,0,none⟩) X.length cap) d.toList /\
  w.grownBy (Go.Sort.grow (Go.Sort.putRow id (Go.Sort.ahead w q) g 0 (rcells d.toList).toArray) os) (some g):=by
 rcases h.2 with⟨e0,_⟩|⟨g',cap',cur,e0,hb,hg,hn,hm,hs,ht⟩
 . cases e0
 . injection e0 with e1 _ e3
   injection e1 with e1
   injection e1 with e1
   subst e1;subst e3;have H7:g<w.heap.size:=(Array.getElem?_eq_some_iff.1 hg).1;have hl:d.toList.length=X.length:=by simpa using hd
   have H5:=y0H d.toList;constructor
   . unfold OwnR
     rw[hl];refine⟨by rw[H5,hl],.inr ⟨g,cap,Go.Sort.putCells id 0 (rcells d.toList).toArray cur,rfl,hb,?_,hn,hm,by simpa[Go.Sort.putCells]using hs,?_⟩⟩
     . show(w.heap.modify g _++os)[g]?=_
       rw[Array.getElem?_append,if_pos (by simpa using H7),Array.getElem?_modify,if_pos rfl,hg];rfl
     . apply List.ext_getElem?
       intro j;rw[List.getElem?_take,Array.getElem?_toList];by_cases hj:j<X.length*4
       . have H8:j<cur.size:=by omega
         simp only[if_pos hj,Go.Sort.putCells,Array.getElem?_mapIdx,Array.getElem?_eq_getElem H8,Option.map_some];rw[if_pos (by simp;omega),List.getElem?_eq_getElem (by omega)];simp[getElem!_pos,show j<(rcells d.toList).length by omega]
       . rw[if_neg hj,List.getElem?_eq_none (by omega)]
   . exact⟨rfl,rfl,rfl,by simp[Go.Sort.grow,Go.Sort.putRow,Go.Sort.mapBlock,Go.Sort.ahead],fun k hk H6=>by
      have:g≠k:=fun e=>H6 (by rw[e])
      show(w.heap.modify g _++os)[k]?=_;rw[Array.getElem?_append,if_pos (by simpa using hk),Array.getElem?_modify,if_neg this]⟩
theorem y6c(v:Value)(X:List RR)(B:Nat)(w:World)(H5:OwnR w B v X)(hX:X ≠ [])(hl:X.length<1073741824):
 Calls prog 378 #[v] w fun e w'=>e=.returned (.tuple #[])/\∃X',ByFrom X X'/\OwnR w' B v X'/\w.grownBy w' v.ownBlock:=by
 rcases H5.2 with⟨_,hn⟩|⟨g,cap,cur,rfl,hb,hg,hn,hm,hs,ht⟩
 . exact absurd (List.eq_nil_of_length_eq_zero hn) hX
 have Hd:g<w.heap.size:=(Array.getElem?_eq_some_iff.1 hg).1;have hH:Go.Sort.HoldsK RR.enc 4 w g 0 X.toArray:=by
  unfold Go.Sort.HoldsK;rw[y2q];intro j hj;have H8:j<X.length*4:=by simpa[y0H]using hj
  refine⟨?_,by simp[World.frozen?,hg]⟩;have:=World.ownsRow.cellAt H5 j H8;rw[Nat.zero_add,this];have He:j<(rcells X).length:=by rw[y0H];exact H8
  simp[getElem!_pos,He]
 have eg:∀args w,(callFunc 402 args).run prog w=.ok (.enter 402 args) w:=enters_of func402 (by kernel_rfl) rfl;have H9:=Go.Proofs.AnyQ.slices_SortFunc Tryz.sortRow 4 (by intro w;kernel_rfl) (by intro w;kernel_rfl) RR.enc (fun _=>rfl) (fun x=>x.one) cmpR swoR 402 #[] g 0 cap X.toArray w eg (fun _ _ _ _ x y=>yAY x y _) hH Hd (by simp;omega);have H7:Calls prog (Tryz.sortRow_ren.f 6) #[.slice (some ⟨g,0,none⟩) X.length cap,.func (.func 402) #[] #[]] w fun e w'=>e=.returned (.tuple #[])/\∃X',ByFrom X X'/\OwnR w' B (.slice (some ⟨g,0,none⟩) X.length cap) X'/\w.grownBy w' (some g):=by
  refine Calls.mono H9 ?_;rintro e w' ⟨he,d',n,os,⟨Hb,_,Hc⟩,Ha,rfl⟩;have hd:d'.size=X.length:=by simpa using Hb
  have hw:=OwnR.put (q:=n) (os:=os) H5 hd;refine⟨he,d'.toList,⟨?_,?_⟩,?_,?_⟩
  . have h1:d'.extract 0 X.toArray.size=d':=by rw[<-Hb];simp
    rw[h1]at Hc;simpa using Hc
  . rw[List.pairwise_iff_getElem]
    intro i j hi hj Hf;have Hg:i<d'.size:=by simpa using hi
    have H8:j<d'.size:=by simpa using hj
    have:=Ha i j (zD) Hf (by rw[<-Hb];exact H8);rw[ltR]at this;simp only[decide_eq_false_iff_not,getElem!_pos d' i Hg,getElem!_pos d' j H8]at this;simp only[Array.getElem_toList];omega
  . unfold Go.Proofs.sortWorldK Go.Sort.putRowK
    rw[y2q];exact hw.1
  . unfold Go.Proofs.sortWorldK Go.Sort.putRowK
    rw[y2q];exact hw.2
 have H6:Calls prog 401 #[.slice (some ⟨g,0,none⟩) X.length cap,.func (.func 402) #[] #[]] w fun e w'=>e=.returned (.tuple #[])/\∃X',ByFrom X X'/\OwnR w' B (.slice (some ⟨g,0,none⟩) X.length cap) X'/\w.grownBy w' (some g):=H7
 have HC:=z7 H6;clear H6;clear H9 H7 hH H5 eg ht hs;generalize X.length=n at *
 go_enter func378,ntmps378
 go_wp2_with (go_at_call 401;refine HC.out.mono ?_;rintro e w' ⟨rfl,X',h1,h2,h3⟩)
 go_end0
 exact⟨rfl,X',h1,h2,h3⟩
def y0L(fr tq ct:Int)(t:ByteArray):Value:=.agg #[.int .i64 fr,.int .i32 tq,.int .i64 ct,.string t]
theorem y50(fr tq ct:Int)(w:World):Calls prog 273 #[.int .i64 fr,.int .i32 tq,.int .i64 ct] w fun e w'=>e=.returned (y0L fr tq ct ByteArray.empty)/\Below w.heap.size w w':=by
 go_enter func273,ntmps273
 go_wp2
 refine bodyPost_ret (v:=y0L fr tq ct ByteArray.empty) (by simp[results,results273,go_sem,y0L];rfl) rfl ⟨rfl,?_⟩;exact(z8).alloc (zA) _
theorem y7Z(fr:Int)(t:ByteArray)(w:World):Calls prog 331 #[.int .i64 fr,.string t] w fun e w'=>e=.returned (y0L fr 0 0 t)/\Below w.heap.size w w':=by
 go_enter func331,ntmps331
 go_wp2
 refine bodyPost_ret (v:=y0L fr 0 0 t) (by simp[results,results331,go_sem,y0L]) rfl ⟨rfl,?_⟩;exact(z8).alloc (zA) _
theorem y5f(a b c:Int)(v:Value)(w:World)(h0:0<=a+b)(h1:a+b<=1073741824):
 Calls prog 335 #[.agg #[.int .i64 a,.int .i64 b,.int .i32 c,v]] w fun e w'=>e=.returned (.int .i64 (a+b))/\Below w.heap.size w w':=by
 have hw:IntKind.i64.wrap (a+b)=a+b:=by rw[y04]<;>omega
 go_enter func335,ntmps335
 go_wp2
 go_ret
 exact⟨by first|rfl|rw[hw],bal (z8) _⟩
def insideB(a b:Int):Bool:=decide (0<=a/\a<1048576/\1<=b/\b<=1048576-a)
theorem y6V(a b:Int)(w:World):Calls prog 400 #[.int .i64 a,.int .i64 b] w fun e w'=>e=.returned (.bool (insideB a b))/\w=w':=by
 by_cases h:0<=a/\a<1048576
 . obtain⟨h0,h1⟩:=h
   go_enter func400,ntmps400
   go_wp2
   all_goals go_ret
   all_goals (refine⟨y03 ?_,rfl⟩;unfold insideB;rw[Bool.eq_iff_iff];simp;omega)
 . have e:insideB a b=false:=by unfold insideB;simp;omega
   rw[e];rcases(show a<0\/(0<=a/\1048576<=a) from by omega)with h|⟨h,h'⟩
   . go_enter func400,ntmps400
     go_wp2
     go_ret
     exact⟨by first|rfl|simp,rfl⟩
   . go_enter func400,ntmps400
     go_wp2
     go_ret
     exact⟨by first|rfl|simp,rfl⟩
theorem y54(r:RR)(c:Int)(w:World)(H9:r.Ok w)(h0:r.fr<=c)(h1:c<r.fin)(hf:0<=r.fr)(hc:r.fin<=1073741824)(Hf:0<=r.tq)(He:r.tq+r.ct<=1073741824)(hl:∀l,r.sg=some l->(l.length:Int)=r.ct):
 Calls prog 336 #[.agg r.enc.toArray,.int .i64 c] w fun e w'=>e=.returned (.int .i32 (r.sign c))/\Below w.heap.size w w':=by
 obtain⟨a,b,t,ad,ln,cp,sg⟩:=r;simp only[RR.enc,RR.fin,RR.sv,RR.sign,RR.Ok]at *;cases sg with
 | none=>
  simp only at *;simp only[Value.slice.injEq]at H9;obtain⟨rfl,rfl,rfl⟩:=H9;have Hd:IntKind.i64.wrap (c-a)=c-a:=by rw[y04]<;>omega
  go_enter func336,ntmps336
  go_wp2
  go_ret
  exact⟨rfl,bal (z8) _⟩
 | some l=>
  simp only at *;obtain⟨g,o,cap,cur,he,Hh,Hi,H8,H5⟩:=H9;simp only[Value.slice.injEq]at he;obtain⟨rfl,rfl,rfl⟩:=he;have Hg:=hl l rfl;obtain⟨k,hk⟩:∃k:Nat,c-a=(k:Int):=⟨(c-a).toNat,by omega⟩;have Hc:k<l.length:=by omega
  have H6:(icells l)[k]?=some (.int .i32 (l.getD k 0)):=by
   rw[y3F l k (l.getD k 0)];simp[List.getD,Hc]
  have H7:w.cell? ⟨g,o+k,none⟩=some (.int .i32 (l.getD k 0)):=by rw[cell_of_row w g (o+k) cur _ _ H8];exact H5 k _ H6
  clear H8;have Hj:∀X,(w.alloc X).cell? ⟨g,o+k,none⟩=some (.int .i32 (l.getD k 0)):=fun X=>kc ((z8).alloc (zA) X) H7
  obtain rfl:c=a+k:=by omega
  rw[show(a+(k:Int)-a).toNat=k from by omega];have Ha:a+(k:Int)-a=k:=by omega
  generalize l.getD k 0=q at *;generalize l.length=n at *;clear H5 hl H6 hk;have Hb:n<=1073741824:=by omega
  go_enter func336,ntmps336
  go_wp2
  go_ret
  exact⟨rfl,bal (z8) _⟩
structure RP where
 fr:Int
 ct:Int
 tq:Int
 sg:Option (List Int)
def RR.pl(r:RR):RP:=⟨r.fr,r.ct,r.tq,r.sg⟩
structure PC where
 fr:Int
 tq:Int
 ct:Int
 tx:ByteArray
def PC.val(p:PC):Value:=y0L p.fr p.tq p.ct p.tx
def PC.row(p:PC):RP:=if p.tx.size=0 then⟨p.fr,p.ct,p.tq,none⟩else⟨p.fr,(pts (bl p.tx)).length,0,some (pts (bl p.tx))⟩
def PC.Right(p:PC):Prop:=
 if p.tx.size=0 then insideB p.fr p.ct=true/\scalar p.tq=true/\scalar (p.tq+(p.ct-1))=true/\(p.tq<55296↔p.tq+(p.ct-1)<55296)
 else p.tx.size<=1073741824/\(∃n,scanL (bl p.tx)=(n,none)/\insideB p.fr n=true)
def RowPost(p:PC)(w:World)(e:Ending)(w':World):Prop:=∃r:RR,e=.returned (.tuple #[.agg r.enc.toArray,.bool true])/\r.pl=p.row/\r.Ok w'/\Below w.heap.size w w'
theorem yHJ(fr tq ct:Int)(w:World)(hp:(PC.mk fr tq ct ByteArray.empty).Right):Calls prog 377 #[y0L fr tq ct ByteArray.empty] w (RowPost ⟨fr,tq,ct,ByteArray.empty⟩ w):=by
 obtain⟨h1,h2,h3,h4⟩:insideB fr ct=true/\scalar tq=true/\scalar (tq+(ct-1))=true/\(tq<55296↔tq+(ct-1)<55296):=hp;have hi:0<=fr/\fr<1048576/\1<=ct/\ct<=1048576-fr:=by simpa[insideB]using h1
 obtain⟨i0,i1,i2,i3⟩:=hi;obtain⟨s0,s1⟩:=y8I tq h2;have c1:=fun w=>y6V fr ct w
 have c2:=fun w=>y3V tq w
 have c3:=fun w=>y3V (tq+(ct-1)) w
 rw[h1]at c1;rw[h2]at c2;rw[h3]at c3;have e1:IntKind.i32.wrap (ct-1)=ct-1:=by rw[wraps_i32]<;>omega
 have e2:IntKind.i32.wrap (tq+(ct-1))=tq+(ct-1):=by rw[wraps_i32]<;>omega
 have H5:decide (tq<55296)=decide (tq+(ct-1)<55296):=by rw[Bool.eq_iff_iff];simpa using h4
 have H6:∀e w',(∃r:RR,e=.returned (.tuple #[.agg r.enc.toArray,.bool true])/\r.pl=⟨fr,ct,tq,none⟩/\r.Ok w'/\Below w.heap.size w w')->RowPost ⟨fr,tq,ct,ByteArray.empty⟩ w e w':=fun e w' h=>h
 have C1:=z7 c1;have C2:=z7 c2;have C3:=z7 c3;have HF:=z7 H6;have H4:=z7 h4;have HG:=z7 H5;have H1:=z7 h1;have H2:=z7 h2;have H3:=z7 h3;clear c1 c2 c3 H6 h4 H5 h1 h2 h3;unfold y0L;by_cases hg:tq<55296
 . have H7:tq+(ct-1)<55296:=H4.out.1 hg
   go_enter func377,ntmps377
   go_wp2_with (first
    | (go_at_call 400;refine(C1.out _).mono ?_;rintro e w1 ⟨rfl,rfl⟩)
    | (go_at_call_of 290 (Value.int .i32 tq);refine(C2.out _).mono ?_;rintro e w1 ⟨rfl,rfl⟩)
    | (go_at_call 290;refine(C3.out _).mono ?_;rintro e w1 ⟨rfl,rfl⟩))
   refine bodyPost_ret (v:=.tuple #[.agg #[.int .i64 fr,.int .i64 ct,.int .i32 tq,.slice none 0 0],.bool true]) (by simp[results,results377,go_sem]) rfl ?_;exact HF.out _ _ ⟨⟨fr,ct,tq,none,0,0,none⟩,rfl,rfl,rfl,bal (bal (z8) _) _⟩
 . have H7:¬tq+(ct-1)<55296:=fun h=>hg (H4.out.2 h)
   have H9:decide (tq<55296)=false:=by simpa using hg
   have H8:decide (tq+(ct-1)<55296)=false:=by simpa using H7
   go_enter func377,ntmps377
   go_wp2_with (first
    | (go_at_call 400;refine(C1.out _).mono ?_;rintro e w1 ⟨rfl,rfl⟩)
    | (go_at_call_of 290 (Value.int .i32 tq);refine(C2.out _).mono ?_;rintro e w1 ⟨rfl,rfl⟩)
    | (go_at_call 290;refine(C3.out _).mono ?_;rintro e w1 ⟨rfl,rfl⟩))
   refine bodyPost_ret (v:=.tuple #[.agg #[.int .i64 fr,.int .i64 ct,.int .i32 tq,.slice none 0 0],.bool true]) (by simp[results,results377,go_sem]) rfl ?_;exact HF.out _ _ ⟨⟨fr,ct,tq,none,0,0,none⟩,rfl,rfl,rfl,bal (bal (z8) _) _⟩
theorem yEV(fr:Int)(tx:ByteArray)(w:World)(hT:TW w)(h0:tx.size≠0)(hp:(PC.mk fr 0 0 tx).Right):Calls prog 377 #[y0L fr 0 0 tx] w (RowPost ⟨fr,0,0,tx⟩ w):=by
 obtain⟨hs,n,hn,h1⟩:tx.size<=1073741824/\(∃n,scanL (bl tx)=(n,none)/\insideB fr n=true):=by
  unfold PC.Right at hp
  rwa [if_neg h0]at hp
 have hi:0<=fr/\fr<1048576/\1<=(n:Int)/\(n:Int)<=1048576-fr:=by simpa[insideB]using h1
 obtain⟨i0,i1,i2,i3⟩:=hi;have H6:n=(pts (bl tx)).length:=y1D _ _ hn;have c1:=fun w=>y6V fr n w
 have c2:∀w,TW w->Calls prog 341 #[.string tx] w fun e w'=>e=.returned (.int .i64 n)/\Below w.heap.size w w':=fun w hT=>by
  have:=y94 tx w hT (by omega)
  rwa [hn]at this
 have c3:∀w,TW w->Calls prog 207 #[.string tx] w fun e w'=>∃g cap,e=.returned (.tuple #[.slice (some ⟨g,0,none⟩) n cap,.agg #[.int .i64 0,.int .i64 0]])/\n<=cap/\cap<=maxLen/\w.heap.size<=g /\
  (∃cur,w'.heap[g]?=some (.cells cur 21 (0,0))/\∀(j:Nat) (x:Value),(icells (pts (bl tx)))[j]?=some x->cur[0+j]?=some x)/\Below w.heap.size w w':=fun w hT=>
  (y6P tx w hT hs).mono fun e w' ⟨v,he,ho,hb⟩=>by
   rw[hn,if_pos rfl]at ho;rcases ho.2 with⟨_,hz⟩|⟨g,cap,cur,rfl,Hp,hh,Hz,Hq,k9,Hk⟩
   . omega
   . refine⟨g,cap,by rw[he,hn,H6];rfl,by omega,Hq,Hp,⟨cur,hh,fun j x hj=>?_⟩,hb⟩
     rw[<-Hk,List.getElem?_take]at hj;split at hj
     . rw[Nat.zero_add];simpa using hj
     . cases hj
 rw[h1]at c1;have Hb:∀e w',(∃r:RR,e=.returned (.tuple #[.agg r.enc.toArray,.bool true])/\r.pl=⟨fr,n,0,some (pts (bl tx))⟩/\r.Ok w'/\Below w.heap.size w w')->RowPost ⟨fr,0,0,tx⟩ w e w':=fun e w' ⟨r,h2,h3,h4⟩=>by
  refine⟨r,h2,?_,h4⟩;rw[h3,PC.row,if_neg h0,H6]
 obtain⟨L,hL⟩:∃L,L=pts (bl tx):=⟨_,rfl⟩;rw[<-hL]at c3 Hb H6;have Ha:tx.toList ≠ []:=by
  intro e;apply h0;rw[ByteArray.toList_eq]at e;have:=congrArg List.length e;show tx.data.size=0;simpa using this
 have Hc:(!tx.toList.isEmpty)=true:=by simpa using Ha
 have l0:=fun W=>Live.fresh W #[.int .i64 0,.int .i64 0,.int .i32 0,.slice none 0 0] 350 0 _ rfl
 have l1:=fun W=>Live.fresh W #[.int .i64 0,.int .i64 0,.int .i32 0,.slice none 0 0] 350 1 _ rfl
 have l2:=fun W=>Live.fresh W #[.int .i64 0,.int .i64 0,.int .i32 0,.slice none 0 0] 350 2 _ rfl
 have l3:=fun W=>Live.fresh W #[.int .i64 0,.int .i64 0,.int .i32 0,.slice none 0 0] 350 3 _ rfl
 have C1:=z7 c1;have C2:=z7 c2;have C3:=z7 c3;have HF:=z7 Hb;have Hw:=z7 Hc;have L0:=z7 l0;have L1:=z7 l1;have L2:=z7 l2;have L3:=z7 l3;have HN:=z7 H6;have H0:=z7 h0;clear c1 c2 c3 Hb Hc l0 l1 l2 l3 H6 h0;clear hL hn hp h1 Ha;unfold y0L;have H9:=Hw.out;have Hi:∀X Y,TW ((w.alloc X).alloc Y):=fun X Y=>(hT.alloc X).alloc Y
 have Hu:=z7 Hi;clear Hi hT;obtain⟨W0,H5⟩:∃W0,W0=(w.alloc (.cells #[.int .i64 fr,.int .i32 0,.int .i64 0,.string tx] 289)).alloc (.cells #[.int .i64 0,.int .i64 0,.int .i32 0,.slice none 0 0] 350):=⟨_,rfl⟩;have p0:W0.cell? ⟨w.heap.size,0,none⟩=some (.int .i64 fr):=by rw[H5];go_simp
 have p3:W0.cell? ⟨w.heap.size,3,none⟩=some (.string tx):=by rw[H5];go_simp
 have H8:(w.alloc (.cells #[.int .i64 fr,.int .i32 0,.int .i64 0,.string tx] 289)).heap.size=w.heap.size+1:=World.size_alloc _ _;have m0:Live W0 (w.heap.size+1) 0 (.int .i64 0):=by rw[H5,<-H8];clear H8 H5;exact L0.out _
 have m1:Live W0 (w.heap.size+1) 1 (.int .i64 0):=by rw[H5,<-H8];clear H8 H5;exact L1.out _
 have m2:Live W0 (w.heap.size+1) 2 (.int .i32 0):=by rw[H5,<-H8];clear H8 H5;exact L2.out _
 have m3:Live W0 (w.heap.size+1) 3 (.slice none 0 0):=by rw[H5,<-H8];clear H8 H5;exact L3.out _
 have Hh:TW W0:=by rw[H5];exact Hu.out _ _
 have Hg:Below w.heap.size w W0:=by rw[H5];exact bal (bal (z8) _) _
 clear H8;have Hv:=z7 H5;have P0:=z7 p0;have P3:=z7 p3;have M0:=z7 m0;have M1:=z7 m1;have M2:=z7 m2;have M3:=z7 m3;have Hj:=z7 Hh;have Hd:=z7 Hg;clear H5 p0 p3 m0 m1 m2 m3 Hh Hg
 go_enter func377,ntmps377
 go_wp2_with fail
 rw[<-Hv.out];refine(C2.out _ Hj.out).mono ?_;rintro e w1 ⟨rfl,H7⟩;have q0:=kc H7 P0.out;have q3:=kc H7 P3.out;have He:=Hj.out.bel H7
 go_wp2_with (go_at_call 400;refine(C1.out _).mono ?_;rintro e w3 ⟨rfl,rfl⟩)
 refine(C3.out _ He).mono ?_;rintro e w2 ⟨g,cap,rfl,Hs,Hr,HQ,Hf,H9⟩;have r0:=kc H9 q0;obtain⟨g0,f0⟩:=(M0.out.keep H7).keep H9;obtain⟨g1,f1⟩:=(M1.out.keep H7).keep H9;obtain⟨g2,f2⟩:=(M2.out.keep H7).keep H9;obtain⟨g3,f3⟩:=(M3.out.keep H7).keep H9;have Hn:w.heap.size+1<w2.heap.size:=((M0.out.keep H7).keep H9).lt;have Hm:w.heap.size<w2.heap.size:=by omega
 have Hy:=z7 Hf;clear Hf;clear q0 q3
 go_wp2_with fail
 refine bodyPost_ret (v:=.tuple #[.agg #[.int .i64 fr,.int .i64 n,.int .i32 0,.slice (some ⟨g,0,none⟩) n cap],.bool true]) (by simp[results,results377,go_sem,g0,g1,g2,g3,f0,f1,f2,f3,Hn]) rfl ?_;have Hl:w.heap.size+1<w1.heap.size:=(M0.out.keep H7).lt;have Ht:Below w.heap.size w w2:=(Hd.out.trans (H7.mono Hd.out.size)).trans (H9.mono ((Hd.out.trans (H7.mono Hd.out.size)).size));refine HF.out _ _ ⟨⟨fr,n,0,some ⟨g,0,none⟩,n,cap,some L⟩,rfl,rfl,?_,?_⟩
 . obtain⟨cur,hh,hc⟩:=Hy.out
   refine⟨g,0,cap,cur,by rw[HN.out];rfl,by rw[<-HN.out];exact Hs,Hr,?_,hc⟩;have Ha:g≠w.heap.size+1:=by omega
   have Ho:g<w2.heap.size:=(Array.getElem?_eq_some_iff.1 hh).1;rw[((z8).alloc (zA) _).block g (by simpa using Ho),Below.heap_setCell _ _ _ _ Ha,Below.heap_setCell _ _ _ _ Ha,Below.heap_setCell _ _ _ _ Ha,Below.heap_setCell _ _ _ _ Ha];exact hh
 . exact bal ((((Ht.setCell (Nat.le_succ _) _).setCell (Nat.le_succ _) _).setCell (Nat.le_succ _) _).setCell (Nat.le_succ _) _) _
theorem yFg(w:World)(row:Option Nat):w.grownBy w row:=⟨rfl,rfl,rfl,zA,fun _ _ _=>rfl⟩
theorem y2O{w a b:World}{row:Option Nat}(h:w.grownBy a row)(k:a.grownBy b row):w.grownBy b row:=
 ⟨k.os.trans h.os,k.tape.trans h.tape,k.output.trans h.output,zE h.size k.size,fun i hi H5=>(k.block i (Nat.lt_of_lt_of_le hi h.size) H5).trans (h.block i hi H5)⟩
theorem y4d{w a:World}(h:Below w.heap.size w a)(row:Option Nat):w.grownBy a row:=⟨h.os,h.tape,h.output,h.size,fun i hi _=>h.block i hi⟩
theorem y5E{w:World}{B B':Nat}{e e':TypeId}{s s' n n':Nat}{v v':Value}{cs cs':List Value}(h:w.ownsRow B e s v n cs)(h':w.ownsRow B' e' s' v' n' cs')(H7:e≠e'):∀k,v.ownBlock=some k->v'.ownBlock≠some k:=by
 intro k hk H5;rcases h.2 with⟨rfl,_⟩|⟨g,cap,cur,rfl,_,hh,_⟩
 . simp[Value.ownBlock]at hk
 . rcases h'.2 with⟨rfl,_⟩|⟨g',cap',cur',rfl,_,H6,_⟩
   . simp[Value.ownBlock]at H5
   . simp only[Value.ownBlock,Option.some.injEq]at hk H5
     subst hk H5;rw[hh]at H6;simp at H6;exact H7 H6.2
theorem y9x{w w':World}{B:Nat}{e:TypeId}{s n:Nat}{v:Value}{cs:List Value}{row:Option Nat}(h:w.ownsRow B e s v n cs)(hg:w.grownBy w' row)(H5:∀k,v.ownBlock=some k->row≠some k):w'.ownsRow B e s v n cs:=
 za h fun k hk=>hg.block k (zf h k hk).2 (fun e=>H5 k hk e.symm)
theorem y3n{w w':World}{b o:Nat}{v:Value}{row:Option Nat}(h:w.cell? ⟨b,o,none⟩=some v)(hg:w.grownBy w' row)(H5:row≠some b):w'.cell? ⟨b,o,none⟩=some v:=by
 unfold World.cell? at *;rw[hg.block b (zp h) (fun e=>H5 e.symm)];exact h
theorem y3K{w w':World}{b o:Nat}{v:Value}{row:Option Nat}(h:w.cell? ⟨b,o,none⟩=some v)(hf:w.frozen? ⟨b,o,none⟩=false)(hg:w.grownBy w' row)(H5:row≠some b):w'.frozen? ⟨b,o,none⟩=false:=by
 unfold World.frozen? at *;rw[hg.block b (zp h) (fun e=>H5 e.symm)];exact hf
theorem yCd{w w':World}{r:RR}{B:Nat}{e:TypeId}{s n:Nat}{v:Value}{cs:List Value}(h:r.Ok w)(hg:w.grownBy w' v.ownBlock)(ho:w.ownsRow B e s v n cs)(H5:e≠21):r.Ok w':=
 h.blk fun k cur hk=>hg.block k (Array.getElem?_eq_some_iff.1 hk).1 fun e1=>by
  rcases ho.2 with⟨rfl,_⟩|⟨g,cap,cur',rfl,_,hh,_⟩
  . simp[Value.ownBlock]at e1
  . simp only[Value.ownBlock,Option.some.injEq]at e1
    subst e1;rw[hh]at hk;simp at hk;exact H5 hk.2
