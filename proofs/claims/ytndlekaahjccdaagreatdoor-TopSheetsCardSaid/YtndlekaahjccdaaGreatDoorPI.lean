/- PI -/
import Derived.Test.YtndlekaahjccdaaGreatDoorPH
import Derived.Lib.UnsafeStr
import Derived.Lib.Builder
import Derived.Scope
import Derived.LoopN
set_option linter.all false
set_option maxRecDepth 100000
set_option maxHeartbeats 40000000
namespace Go.Rf
variable [Sym]
open Go.RowKit
section
variable {P:Program} {X:Xt} [XOk P X] {W0:World} {B:Nat} {ρ:Rho} {s:St} {w:World} {a:Act} {ev:Operand->V2}
 {dst:Option Tmp} {type:TypeId} {pos:String} {after:Array Edge} {guard:Option (Nat×Bool)} {out:Out}
theorem Conc.move(h:Conc W0 B ρ s w){n:Nat}{m m':Nm}{ob ob':Ob}{w':World}(hn:ρ n=some m)(hf:find s.heap n=some ob)(hm:m'.blk=m.blk)
 (H8:w'.os=w.os/\w'.tape=w.tape/\w'.output=w.output/\w'.heap.size=w.heap.size) (H7:∀k,k≠m.blk->w'.heap[k]?=w.heap[k]?) (Hc:∀ρ',Ext ρ ρ'->Holds ρ' m' w' ob'):
 Step W0 B ρ s (upd ρ s.next m') { heap:=(s.next,ob')::drop s.heap n,next:=s.next+1 } w':=by
 obtain⟨b1,b2,_⟩:=h.holds n ob hf m hn;have hx:=yFp h m';have hold:∀k x,find (drop s.heap n) k=some x->k≠n/\find s.heap k=some x:=fun k x hk=>by
  rw[y8r]at hk;by_cases e:n=k
  . simp[e]at hk
  . rw[if_neg e]at hk;exact⟨Ne.symm e,hk⟩
 have H5:∀k x,find ((s.next,ob')::drop s.heap n) k=some x->(k=s.next/\x=ob')\/(k≠s.next/\k≠n/\find s.heap k=some x):=fun k x hk=>by
  simp only[find]at hk;by_cases e:s.next=k
  . subst e;simp at hk;exact .inl ⟨rfl,hk.symm⟩
  . have:(s.next==k)=false:=by simpa using e
    simp only[this]at hk;exact .inr ⟨Ne.symm e,hold k x hk⟩
 have hu:∀k,k≠s.next->upd ρ s.next m' k=ρ k:=fun k hk=>by simp[upd,hk]
 have Ha:upd ρ s.next m' s.next=some m':=by simp[upd]
 refine⟨fun k hk=>hu k (Nat.ne_of_lt hk),Nat.le_succ _,h.below.trans ⟨H8.1,H8.2.1,H8.2.2.1,by omega,fun k hk=>H7 k (by omega)⟩,by rw[H8.2.2.2];exact h.big,?_,?_,?_,?_⟩
 . intro k hk
   have Hd:s.next+1<=k:=hk
   rw[hu k (by omega)];exact h.fresh k (by omega)
 . intro k x hk mk H6
   rcases H5 k x hk with⟨rfl,rfl⟩|⟨H9,Hb,h2⟩
   . rw[Ha]at H6;cases H6
     exact⟨by omega,by omega,Hc _ hx⟩
   . rw[hu k H9]at H6
     obtain⟨a1,a2,a3⟩:=h.holds k x h2 mk H6;exact⟨a1,by omega,a3.mono hx (H7 _ (h.inj k n x ob h2 hf Hb mk m H6 hn))⟩
 . intro k k' x x' h1 h2 H9 mk mk' e1 e2
   rcases H5 k x h1 with⟨rfl,rfl⟩|⟨c1,c2,c3⟩
   . rcases H5 k' x' h2 with⟨rfl,rfl⟩|⟨d1,d2,d3⟩
     . exact absurd rfl H9
     . rw[Ha]at e1;cases e1
       rw[hu k' d1]at e2;rw[hm];exact h.inj n k' ob x' hf d3 (Ne.symm d2) m mk' hn e2
   . rw[hu k c1]at e1
     rcases H5 k' x' h2 with⟨rfl,rfl⟩|⟨d1,d2,d3⟩
     . rw[Ha]at e2;cases e2
       rw[hm];exact h.inj k n x ob c3 hf c2 mk m e1 hn
     . rw[hu k' d1]at e2
       exact h.inj k k' x x' c3 d3 H9 mk mk' e1 e2
 . intro k x hk
   rcases H5 k x hk with⟨rfl,rfl⟩|⟨_,_,h2⟩
   . exact Nat.lt_succ_self _
   . exact Nat.lt_succ_of_lt (h.names k x h2)
theorem repeatL_length(z:List At):∀n,(repeatL z n).length=n*z.length
 | 0=>by simp[repeatL]
 | n+1=>by rw[repeatL,List.length_append,repeatL_length z n,Nat.add_mul];omega
theorem y1W(z:List At):∀(n i:Nat),i<n*z.length->(repeatL z n)[i]?=z[i%z.length]?
 | 0,i,h=>by simp at h
 | n+1,i,h=>by
  rw[repeatL];by_cases hi:i<z.length
  . rw[List.getElem?_append_left hi,Nat.mod_eq_of_lt hi]
  . rw[List.getElem?_append_right (by omega),y1W z n _ (by rw[Nat.add_mul]at h;omega)]
    rw[Nat.mod_eq_sub_mod (by omega:i ≥ z.length)]
theorem y2s{zv:Value}{n k:Nat}(hk:zv.cells.size=k):dens ρ (repeatL (zv.cells.toList.map .lit) n)=some (((Array.range (n*k)).map (zv.cells[· % zv.cells.size]!))).toList:=by
 subst hk;obtain⟨vs,H5⟩:=y28 (ρ:=ρ) (xs:=repeatL (zv.cells.toList.map .lit) n) fun i x hi=>by
  have H7:i<n*zv.cells.size:=by
   rcases Nat.lt_or_ge i (repeatL (zv.cells.toList.map At.lit) n).length with h'|h'
   . rw[repeatL_length]at h';simpa using h'
   . simp[List.getElem?_eq_none h']at hi
  rw[y1W _ _ _ (by simpa using H7)]at hi;simp at hi;obtain⟨v,_,rfl⟩:=hi;exact⟨v,rfl⟩
 rw[H5]
 congr 1
 apply List.ext_getElem?;intro i;have hl:=zT H5;rw[repeatL_length]at hl;simp at hl;by_cases hi:i<n*zv.cells.size
 . have H6:0<zv.cells.size:=by
    rcases Nat.eq_zero_or_pos zv.cells.size with h0|h0
    . rw[h0]at hi;omega
    . exact h0
   have hm:i%zv.cells.size<zv.cells.size:=Nat.mod_lt _ H6;have hg:(repeatL (zv.cells.toList.map At.lit) n)[i]?=some (.lit zv.cells[i%zv.cells.size]):=by
    rw[y1W _ _ _ (by simpa using hi)];simp[hm]
   obtain⟨v,b1,b2⟩:=zl H5 hg;simp[At.den]at b1;subst b1;rw[b2];simp[hi,hm]
 . rw[List.getElem?_eq_none (by omega),List.getElem?_eq_none (by simp;omega)]
theorem y9g{t e ty z sLen sCap n:Nat}{ats:Array TypeId}{i:TypeInfo}{zv vx vy:Value}{base:Option Addr}{olds news:List Value}
 (h0:ats[0]?=some t) (ht:P.underlying t=some (.slice e)) (H9:∀u,ats[1]?=some u->P.underlying u=some .string\/∃e',P.underlying u=some (.slice e'))
 (hi:P.info? e=some i) (hs:i.size=z+1) (hz:i.zero=some zv) (hx:vx=.slice base sLen sCap)
 (H6:∀w':World,(Builtin.lenOf vy).run P w'=.ok n w') (H5:(Builtin.firstCells (z+1) n vy).run P w.drew=.ok news.toArray w.drew) (hold:(Builtin.firstCells (z+1) sLen vx).run P w.drew=.ok olds.toArray w.drew)
 (Ha:¬sLen+n<=sCap) (Hc:sLen+n<=1000000) (Hb:i.bytes<=100000):
 (Builtin.append_ ats ty #[vx,vy]).run P w=.ok (.slice (some ⟨w.heap.size,0,none⟩) (sLen+n) (grownCap w (sLen+n) sCap e))
   (w.drew.alloc (.cells (olds.toArray++news.toArray++Builtin.zeroCells zv.cells (grownCap w (sLen+n) sCap e-(sLen+n))) e)):=by
 subst hx;have H7:¬(9223372036854775807<((sLen:Int)+(n:Int))):=by omega
 have hm:(sLen+n)*i.bytes<=1000000*100000:=Nat.mul_le_mul Hc Hb;have H8:¬(281474976710656<Builtin.nextslicecap (sLen+n) sCap*i.bytes):=by
  have:=growslice_fits (need:=sLen+n) (old:=sCap) (bytes:=i.bytes) (by omega) (by omega);omega
 cases h1:ats[1]? with
 | none=>
  simp[Builtin.append_,h0,h1,run_underlying ht,sizeOf,typeInfo,zeroValue,hi,hs,hz,H6,Ha,H7,H8,Question.forced,H5,hold,newRow,grownCap]
  congr 2
  apply Array.ext';simp[List.append_assoc]
 | some u=>
  rcases H9 u h1 with hd|⟨e',hd⟩
  all_goals simp[Builtin.append_,h0,h1,run_underlying ht,run_underlying hd,sizeOf,typeInfo,zeroValue,hi,hs,hz,H6,Ha,H7,H8,Question.forced,H5,hold,newRow,grownCap]
  all_goals (congr 2;apply Array.ext';simp[List.append_assoc])
theorem y9h{t e ty z sLen sCap n b off:Nat}{ats:Array TypeId}{i:TypeInfo}{vx vy:Value}{news:List Value}
 (h0:ats[0]?=some t) (ht:P.underlying t=some (.slice e)) (H7:∀u,ats[1]?=some u->P.underlying u=some .string\/∃e',P.underlying u=some (.slice e'))
 (hi:P.info? e=some i) (hs:i.size=z+1) (hx:vx=.slice (some ⟨b,off,none⟩) sLen sCap)
 (H6:∀w':World,(Builtin.lenOf vy).run P w'=.ok n w') (H5:(Builtin.firstCells (z+1) n vy).run P w=.ok news.toArray w)
 (H9:sLen+n<=sCap) (H8:(storeCells ⟨b,off+sLen*(z+1),none⟩ news).run P w=.ok () (w.setCells b (off+sLen*(z+1)) news)):
 (Builtin.append_ ats ty #[vx,vy]).run P w=.ok (.slice (some ⟨b,off,none⟩) (sLen+n) sCap) (w.setCells b (off+sLen*(z+1)) news):=by
 subst hx;cases h1:ats[1]? with
 | none=>
  simp[Builtin.append_,h0,h1,run_underlying ht,sizeOf,typeInfo,hi,hs,H6,H9,H5,Addr.add_lit,H8]
 | some u=>
  rcases H7 u h1 with hd|⟨e',hd⟩
  all_goals simp[Builtin.append_,h0,h1,run_underlying ht,run_underlying hd,sizeOf,typeInfo,hi,hs,H6,H9,H5,Addr.add_lit,H8]
theorem y8L{t e u ty z sLen sCap n:Nat}{ats:Array TypeId}{i:TypeInfo}{zv vx vy:Value}{base:Option Addr}{olds:List Value}{k ki:IntKind}
 (h0:ats[0]?=some t) (ht:P.underlying t=some (.slice e)) (h1:ats[1]?=some u) (hu:P.underlying u=some (.int k))
 (hi:P.info? e=some i) (hs:i.size=z+1) (hz:i.zero=some zv) (hx:vx=.slice base sLen sCap) (hy:vy=.int ki n)
 (hold:(Builtin.firstCells (z+1) sLen vx).run P w.drew=.ok olds.toArray w.drew) (hn:0<n) (Hb:n<=100000)
 (Ha:¬sLen+n<=sCap) (He:sLen+n<=1000000) (H9:i.bytes<=100000):
 (Builtin.append_ ats ty #[vx,vy]).run P w=.ok (.slice (some ⟨w.heap.size,0,none⟩) (sLen+n) (grownCap w (sLen+n) sCap e))
   (w.drew.alloc (.cells (olds.toArray++Builtin.zeroCells zv.cells n++Builtin.zeroCells zv.cells (grownCap w (sLen+n) sCap e-(sLen+n))) e)):=by
 subst hx;subst hy;have H7:¬(9223372036854775807<((sLen:Int)+(n:Int))):=by omega
 have hm:(sLen+n)*i.bytes<=1000000*100000:=Nat.mul_le_mul He H9;have H8:¬(281474976710656<Builtin.nextslicecap (sLen+n) sCap*i.bytes):=by
  have:=growslice_fits (need:=sLen+n) (old:=sCap) (bytes:=i.bytes) (by omega) (by omega);omega
 have hw:IntKind.i64.wrap (n:Int)=n:=wrapN (k:=.i64) (by simp[y3f];omega);have Hg:n*i.bytes<=100000*100000:=Nat.mul_le_mul Hb H9;have Hf:¬(281474976710656<(n:Int)*(i.bytes:Int)):=by
  have:(n:Int)*(i.bytes:Int)=((n*i.bytes:Nat):Int):=by push_cast;rfl
  rw[this];omega
 have H5:¬((n:Int)<0):=by omega
 have Hd:n≠0:=by omega
 have H6:max (n:Int) 0=n:=by omega
 have Hc:¬n*(z+1)=0:=Nat.ne_of_gt (Nat.mul_pos hn (Nat.succ_pos z));simp[Builtin.append_,h0,h1,run_underlying ht,run_underlying hu,asInt,asIntOf,hw,H5,Hf,Hd,H6,sizeOf,typeInfo,zeroValue,hi,hs,hz,Ha,H7,H8,Question.forced,hold,newRow,grownCap,Array.append_assoc];exact fun hh=>absurd hh Hc
theorem y8M{t e u ty z sLen sCap n b off:Nat}{ats:Array TypeId}{i:TypeInfo}{zv vx vy:Value}{k ki:IntKind}
 (h0:ats[0]?=some t) (ht:P.underlying t=some (.slice e)) (h1:ats[1]?=some u) (hu:P.underlying u=some (.int k))
 (hi:P.info? e=some i) (hs:i.size=z+1) (hz:i.zero=some zv) (hx:vx=.slice (some ⟨b,off,none⟩) sLen sCap) (hy:vy=.int ki n) (hn:0<n) (H8:n<=100000) (Hc:i.bytes<=100000)
 (H7:sLen+n<=sCap) (H6:(storeCells ⟨b,off+sLen*(z+1),none⟩ (Builtin.zeroCells zv.cells n).toList).run P w=.ok () (w.setCells b (off+sLen*(z+1)) (Builtin.zeroCells zv.cells n).toList)):
 (Builtin.append_ ats ty #[vx,vy]).run P w=.ok (.slice (some ⟨b,off,none⟩) (sLen+n) sCap) (w.setCells b (off+sLen*(z+1)) (Builtin.zeroCells zv.cells n).toList):=by
 subst hx;subst hy;have hw:IntKind.i64.wrap (n:Int)=n:=wrapN (k:=.i64) (by simp[y3f];omega);have He:n*i.bytes<=100000*100000:=Nat.mul_le_mul H8 Hc;have Hd:¬(281474976710656<(n:Int)*(i.bytes:Int)):=by
  have:(n:Int)*(i.bytes:Int)=((n*i.bytes:Nat):Int):=by push_cast;rfl
  rw[this];omega
 have H5:¬((n:Int)<0):=by omega
 have Ha:n≠0:=by omega
 have Hb:max (n:Int) 0=n:=by omega
 have H9:¬n*(z+1)=0:=Nat.ne_of_gt (Nat.mul_pos hn (Nat.succ_pos z));simp[Builtin.append_,h0,h1,run_underlying ht,run_underlying hu,asInt,asIntOf,hw,H5,Hd,Ha,sizeOf,typeInfo,zeroValue,hi,hs,hz,H7,Addr.add_lit,H6];exact fun hh=>absurd hh H9
theorem lt_of_some{α:Type}{c:Array α}{i:Nat}{v:α}(h:c[i]?=some v):i<c.size:=by
 rcases Nat.lt_or_ge i c.size with h'|h'
 . exact h'
 . simp[Array.getElem?_eq_none h']at h
theorem y5K{ats:Array TypeId}{t:TypeId}{ts:List TypeId}(he:ats.toList=t::ts)(h:y5L X ts=true):ats[0]?=some t/\∀u,ats[1]?=some u->P.underlying u=some .string\/∃e',P.underlying u=some (.slice e'):=by
 have H5:∀i:Nat,ats[i]?=(t::ts)[i]?:=fun i=>by rw[<-he];simp
 refine⟨by rw[H5];rfl,fun u hu=>?_⟩;rw[H5]at hu;cases ts with
 | nil=>simp at hu
 | cons x xs=>
  simp at hu;subst hu;simp only[y5L]at h;split at h
  . rename_i hs;exact .inl (y08 hs)
  . rename_i e' hs;exact .inr ⟨e',y08 hs⟩
  . cases h
theorem y9O{e:TypeId}{i:TypeInfo}{zs:List At}(hi:X.info e=some i)(h:zeroOf X e=some zs):∃zv,i.zero=some zv/\zs=zv.cells.toList.map .lit:=by
 unfold zeroOf at h;rw[hi]at h;split at h
 . rename_i j hj
   cases hj;split at h
   . rename_i v hv;cases h;exact⟨v,hv,rfl⟩
   . cases h
 . cases h
theorem y8e{y:V2}{vy:Value}{size m:Nat}{q:List At}(hv:y.den ρ=some vy)(h:yF0 y size s.heap=some (m,q)):∀w',(Builtin.lenOf vy).run P w'=.ok m w':=by
 unfold yF0 at h;split at h
 . cases h;cases zX hv;exact fun w'=>rfl
 . obtain⟨m',hn,rfl⟩:=y19 hv
   split at h
   . split at h
     . cases h;exact fun w'=>rfl
     . cases h
   . cases h
 . obtain⟨m',hn,rfl⟩:=y2A hv
   split at h
   . split at h
     . cases h;exact fun w'=>rfl
     . cases h
   . cases h
 . obtain⟨m',hn,_,rfl⟩:=y2u hv
   cases h;exact fun w'=>rfl
 . cases h;cases zX hv;exact fun w'=>rfl
 . cases h
theorem yCi(hC:Conc W0 B ρ s w){y:V2}{vy:Value}{size m:Nat}{q:List At}(hv:y.den ρ=some vy)(h:yF0 y size s.heap=some (m,q)):
 ∃news,dens ρ q=some news/\(Builtin.firstCells size m vy).run P w=.ok news.toArray w/\(Builtin.firstCells size m vy).run P w.drew=.ok news.toArray w.drew:=by
 unfold yF0 at h;split at h
 . rename_i b
   cases h;have:=zX hv;subst this;refine⟨b.data.toList.map fun b=>.int .u8 b.toNat,?_,?_,?_⟩
   . have:=y15 (ρ:=ρ) (b.data.toList.map fun b=>Value.int .u8 b.toNat)
     rw[List.map_map]at this;exact this
   . simp[Builtin.firstCells]
     apply Array.ext';simp
   . simp[Builtin.firstCells]
     apply Array.ext';simp
 . rename_i n k z len
   obtain⟨m',hn,rfl⟩:=y19 hv;split at h
   . rename_i e' kk cs hf
     split at h
     . rename_i r hz hr
       cases h;obtain⟨vs,a1,a2,a3⟩:=hC.range hn hf hr;have H5:z=size:=by simpa using hz
       subst H5;exact⟨vs,a1,run_firstCells_some w z _ _ _ _ vs a2 a3,run_firstCells_some w.drew z _ _ _ _ vs a2 (by simpa using a3)⟩
     . cases h
   . cases h
 . rename_i n off len c
   obtain⟨m',hn,rfl⟩:=y2A hv;split at h
   . rename_i e' kk cs hf
     split at h
     . rename_i r hr
       cases h;obtain⟨vs,a1,a2,a3⟩:=hC.range hn hf hr;exact⟨vs,a1,run_firstCells_some w size _ _ _ _ vs a2 a3,run_firstCells_some w.drew size _ _ _ _ vs a2 (by simpa using a3)⟩
     . cases h
   . cases h
 . obtain⟨m',hn,_,rfl⟩:=y2u hv
   cases h;exact⟨[],rfl,run_firstCells_some w size _ _ _ _ [] (by simp) (by simp),run_firstCells_some w.drew size _ _ _ _ [] (by simp) (by simp)⟩
 . cases h;cases zX hv
   exact⟨[],rfl,run_firstCells_none w _ _ _ _,run_firstCells_none w.drew _ _ _ _⟩
 . cases h
theorem y4z(z:Array Value)(n:Nat):(Builtin.zeroCells z n).size=n*z.size:=by simp[Builtin.zeroCells]
end
variable [Sym]
open Go.RowKit
section
variable {P:Program} {X:Xt} [XOk P X] {W0:World} {B:Nat} {ρ:Rho} {s:St} {w:World} {a:Act} {ev:Operand->V2}
 {dst:Option Tmp} {type:TypeId} {pos:String} {after:Array Edge} {guard:Option (Nat×Bool)} {out:Out}
inductive AppArg (P:Program) (ats:Array TypeId) (z:Nat) (zv vy:Value) (m:Nat) (news:List Value) (w:World):Prop where
 | cells (h1:∀u,ats[1]?=some u->P.underlying u=some .string\/∃e',P.underlying u=some (.slice e')) (h2:∀w':World,(Builtin.lenOf vy).run P w'=.ok m w')
  (h3:(Builtin.firstCells (z+1) m vy).run P w=.ok news.toArray w) (h4:(Builtin.firstCells (z+1) m vy).run P w.drew=.ok news.toArray w.drew)
 | zeros (u:TypeId) (k ki:IntKind) (h1:ats[1]?=some u) (h2:P.underlying u=some (.int k)) (h3:vy=.int ki m) (h4:m<=100000) (h5:news=(Builtin.zeroCells zv.cells m).toList)
theorem AppArg.grow{t e ty z sLen sCap n:Nat}{ats:Array TypeId}{i:TypeInfo}{zv vx vy:Value}{base:Option Addr}{olds news:List Value}(h:AppArg P ats z zv vy n news w)
 (h0:ats[0]?=some t) (ht:P.underlying t=some (.slice e)) (hi:P.info? e=some i) (hs:i.size=z+1) (hz:i.zero=some zv) (hx:vx=.slice base sLen sCap)
 (hold:(Builtin.firstCells (z+1) sLen vx).run P w.drew=.ok olds.toArray w.drew) (hn:0<n) (H5:¬sLen+n<=sCap) (H7:sLen+n<=1000000) (H6:i.bytes<=100000):
 (Builtin.append_ ats ty #[vx,vy]).run P w=.ok (.slice (some ⟨w.heap.size,0,none⟩) (sLen+n) (grownCap w (sLen+n) sCap e))
   (w.drew.alloc (.cells (olds.toArray++news.toArray++Builtin.zeroCells zv.cells (grownCap w (sLen+n) sCap e-(sLen+n))) e)):=by
 cases h with
 | cells h1 h2 h3 h4=>exact y9g h0 ht h1 hi hs hz hx h2 h4 hold H5 H7 H6
 | zeros u k ki h1 h2 h3 h4 h5=>
  subst h5;exact y8L h0 ht h1 h2 hi hs hz hx h3 hold hn h4 H5 H7 H6
theorem AppArg.room{t e ty z sLen sCap n b off:Nat}{ats:Array TypeId}{i:TypeInfo}{zv vx vy:Value}{news:List Value}(h:AppArg P ats z zv vy n news w)
 (h0:ats[0]?=some t) (ht:P.underlying t=some (.slice e)) (hi:P.info? e=some i) (hs:i.size=z+1) (hz:i.zero=some zv) (hx:vx=.slice (some ⟨b,off,none⟩) sLen sCap) (hn:0<n) (H7:i.bytes<=100000)
 (H6:sLen+n<=sCap) (H5:(storeCells ⟨b,off+sLen*(z+1),none⟩ news).run P w=.ok () (w.setCells b (off+sLen*(z+1)) news)):
 (Builtin.append_ ats ty #[vx,vy]).run P w=.ok (.slice (some ⟨b,off,none⟩) (sLen+n) sCap) (w.setCells b (off+sLen*(z+1)) news):=by
 cases h with
 | cells h1 h2 h3 h4=>exact y9h h0 ht h1 hi hs hx h2 h3 H6 H5
 | zeros u k ki h1 h2 h3 h4 h5=>
  subst h5;exact y8M h0 ht h1 h2 hi hs hz hx h3 hn h4 H7 H6 H5
theorem first0{vy:Value}{size:Nat}(h:∀w':World,(Builtin.lenOf vy).run P w'=.ok 0 w'):(Builtin.firstCells size 0 vy).run P w=.ok #[] w:=by
 cases vy with
 | slice b n c=>
  cases b with
  | none=>exact run_firstCells_none w _ _ _ _
  | some b=>exact run_firstCells_some w size 0 b n c [] (by simp) (by simp)
 | string b=>simp[Builtin.firstCells]
 | _=>exact absurd (h w) (by simp[Builtin.lenOf,stuck,Sem.run])
theorem y9i{t e ty z sLen sCap:Nat}{ats:Array TypeId}{vx vy:Value}{base:Option Addr}
 (h0:ats[0]?=some t) (ht:P.underlying t=some (.slice e)) (hz:zt X e=some z) (hx:vx=.slice base sLen sCap) (H5:sLen<=sCap)
 (h:((∀u,ats[1]?=some u->P.underlying u=some .string\/∃e',P.underlying u=some (.slice e'))/\∀w':World,(Builtin.lenOf vy).run P w'=.ok 0 w')\/∃u k ki,ats[1]?=some u/\P.underlying u=some (.int k)/\vy=.int ki ((0:Nat):Int)):
 (Builtin.append_ ats ty #[vx,vy]).run P w=.ok vx w:=by
 subst hx;obtain⟨i,hi,hs⟩:∃i,P.info? e=some i/\i.size=z:=by
  unfold zt at hz;split at hz
  . rename_i i hi;exact⟨i,y1c hi,by simpa using hz⟩
  . cases hz
 rcases h with⟨h1,h2⟩|⟨u,k,ki,h1,hu,rfl⟩
 . have hf:=fun w=>first0 (P:=P) (w:=w) (size:=z) h2
   cases hb:base with
   | none=>
    cases h3:ats[1]? with
    | none=>simp[Builtin.append_,h0,h3,run_underlying ht,sizeOf,typeInfo,hi,hs,h2,H5,hf]
    | some u=>rcases h1 u h3 with hd|⟨e',hd⟩<;>simp[Builtin.append_,h0,h3,run_underlying ht,run_underlying hd,sizeOf,typeInfo,hi,hs,h2,H5,hf]
   | some b=>
    have H6:∀ad:Addr,(storeCells ad []).run P w=.ok () w:=fun ad=>rfl
    cases h3:ats[1]? with
    | none=>simp[Builtin.append_,h0,h3,run_underlying ht,sizeOf,typeInfo,hi,hs,h2,H5,hf,H6]
    | some u=>rcases h1 u h3 with hd|⟨e',hd⟩<;>simp[Builtin.append_,h0,h3,run_underlying ht,run_underlying hd,sizeOf,typeInfo,hi,hs,h2,H5,hf,H6]
 . have hw:IntKind.i64.wrap ((0:Nat):Int)=0:=rfl
   have H6:∀ad:Addr,(storeCells ad []).run P w=.ok () w:=fun ad=>rfl
   cases hb:base with
   | none=>simp[Builtin.append_,h0,h1,run_underlying ht,run_underlying hu,asInt,asIntOf,hw,sizeOf,typeInfo,hi,hs,H5];simp[show IntKind.i64.wrap 0=0 from rfl,H5,hi]
   | some b=>simp[Builtin.append_,h0,h1,run_underlying ht,run_underlying hu,asInt,asIntOf,hw,sizeOf,typeInfo,hi,hs,H5,H6];simp[show IntKind.i64.wrap 0=0 from rfl,H5,hi,H6]
theorem y81(hC:Conc W0 B ρ s w){ats:Array TypeId}{t:TypeId}{ts:List TypeId}(H5:ats.toList=t::ts){y:V2}{vy zv:Value}{z m:Nat}{q:List At}(hv:y.den ρ=some vy)(H6:zv.cells.size=z+1)
 (h:appended X ts (y5L X ts) y (z+1) (zv.cells.toList.map .lit) s.heap=some (m,q)):∃news,dens ρ q=some news/\AppArg P ats z zv vy m news w:=by
 unfold appended at h;split at h
 . rename_i H7
   obtain⟨i0,i1⟩:=y5K (P:=P) H5 H7;obtain⟨news,n1,n3,n4⟩:=yCi (P:=P) hC hv h;exact⟨news,n1,.cells i1 (y8e (P:=P) hv h) n3 n4⟩
 . cases ts with
   | nil=>cases h
   | cons u us=>
    simp only at h;split at h
    . rename_i k m' hu hm
      split at h
      . rename_i hb
        cases h;obtain⟨ki,hk⟩:=zn hm hv;have h1:ats[1]?=some u:=by
         have:ats[1]?=(t::u::us)[1]?:=by rw[<-H5];simp
         rw[this];rfl
        refine⟨_,y2s H6,.zeros u k ki h1 (y08 hu) hk (Nat.le_of_ble_eq_true hb) ?_⟩;rw[H6];simp[Builtin.zeroCells,H6]
      . cases h
    . cases h
theorem y80{ats:Array TypeId}{t:TypeId}{ts:List TypeId}(H5:ats.toList=t::ts){y:V2}{vy:Value}{size:Nat}{zs q:List At}(hv:y.den ρ=some vy)
 (h:appended X ts (y5L X ts) y size zs s.heap=some (0,q)):((∀u,ats[1]?=some u->P.underlying u=some .string\/∃e',P.underlying u=some (.slice e'))/\∀w':World,(Builtin.lenOf vy).run P w'=.ok 0 w')\/∃u k ki,ats[1]?=some u/\P.underlying u=some (.int k)/\vy=.int ki ((0:Nat):Int):=by
 unfold appended at h;split at h
 . rename_i H6
   obtain⟨i0,i1⟩:=y5K (P:=P) H5 H6;exact .inl ⟨i1,y8e (P:=P) hv h⟩
 . cases ts with
   | nil=>cases h
   | cons u us=>
    simp only at h;split at h
    . rename_i k m' hu hm
      split at h
      . rename_i hb
        cases h;obtain⟨ki,hk⟩:=zn hm hv;have h1:ats[1]?=some u:=by
         have:ats[1]?=(t::u::us)[1]?:=by rw[<-H5];simp
         rw[this];rfl
        exact .inr ⟨u,k,ki,h1,y08 hu,hk⟩
      . cases h
    . cases h
theorem yJS{x:V2}{v:Value}{e size:Nat}{o:Option Nat×Nat×List At×Bool}(hv:x.den ρ=some v)(h:yEk x e size s.heap=some o):∃base l c,v=.slice base l c/\l<=c:=by
 unfold yEk at h;split at h
 . cases zX hv;exact⟨none,0,0,rfl,Nat.le_refl _⟩
 . obtain⟨m,_,rfl⟩:=y2A hv
   exact⟨_,0,0,rfl,Nat.le_refl _⟩
 . obtain⟨m,_,hc,rfl⟩:=y2S hv
   exact⟨_,_,_,rfl,by omega⟩
 . cases h
def obOf(fz:Bool)(e z:Nat)(cs:List At):Ob:=match fz with
 | true=>.fro e cs
 | false=>.cells e (z+1) cs
theorem y82{e z m l:Nat}{n:Option Nat}{r q:List At}{fz:Bool}:y6h e z (n,l,r,fz) m q s=some (.val (.o (.a (.sli s.next 0 (z+1) (l+m)))) { heap:=(s.next,obOf fz e z (r++q))::yIH s.heap n,next:=s.next+1 }):=by
 cases fz<;>rfl
def Old(P:Program)(ρ:Rho)(s:St)(w:World)(fz:Bool)(e z:Nat)(n' k l:Nat)(mm:Nm)(r:List At):Prop:=
 ∃ob c0 fr olds,find s.heap n'=some ob/\w.heap[mm.blk]?=some (.cells c0 e fr)/\(∀i,mm.sh+k*(z+1)+l*(z+1)<=i->i<c0.size->¬(fr.1<=i/\i<fr.2))/\mm.sh+mm.cap*(z+1)<=c0.size /\
  (fz=false->∀i,i<c0.size->¬(fr.1<=i/\i<fr.2))/\(fz=true->z=0/\r.length=l/\mm.sh=0/\k=0/\(fr.1=fr.2\/fr.2<=r.length))/\dens ρ r=some olds/\olds.length=l*(z+1)/\(∀j v,olds[j]?=some v->c0[mm.sh+k*(z+1)+j]?=some v)
theorem y5z(hC:Conc W0 B ρ s w){x y:Operand}{c:Call}{t e z l m:Nat}{ts:List TypeId}{info:TypeInfo}{zs r q:List At}{n:Option Nat}{fz:Bool}
 (Hc:(ev x).den ρ=some (a.eval x)) (kC:(ev y).den ρ=some (a.eval y)) (Hp:c.callee=.builtin .append) (Hg:c.args.toList = [x,y]) (Hf:c.argTypes.toList=t::ts)
 (ht:X.under t=some (.slice e)) (hz:zt X e=some (z+1)) (hi:X.info e=some info) (Hw:zeroOf X e=some zs)
 (ho:yEk (ev x) e (z+1) s.heap=some (n,l,r,fz)) (hw:appended X ts (y5L X ts) (ev y) (z+1) zs s.heap=some (m,q)) (h1:l+m<=1000000) (h2:info.bytes<=100000) (h3:zs.length=z+1) (h4:0<m) (h5:r.length=l*(z+1)) (h6:q.length=m*(z+1)) (h7:y5t q=true):
 OpOk P W0 B ρ s w a ⟨dst,.call c,type,pos,after,guard⟩ (.val (.o (.a (.sli s.next 0 (z+1) (l+m)))) { heap:=(s.next,obOf fz e z (r++q))::yIH s.heap n,next:=s.next+1 }):=by
 have i0:c.argTypes[0]?=some t:=by
  have:c.argTypes[0]?=(t::ts)[0]?:=by rw[<-Hf];simp
  rw[this];rfl
 have Ht:info.size=z+1:=by unfold zt at hz;rw[hi]at hz;simpa using hz
 obtain⟨zv,Hq,rfl⟩:=y9O hi Hw;have Hr:zv.cells.size=z+1:=by simpa using h3
 have Hs:=y08 (P:=P) ht;have Hb:=y1c (P:=P) hi;obtain⟨news,n1,Hh⟩:=y81 (P:=P) hC Hf kC Hr hw;have kx:news.length=m*(z+1):=by rw[zT n1,h6]
 have H8:∀v w',(Builtin.append_ c.argTypes type #[a.eval x,a.eval y]).run P w=.ok v w'->(execOp a.eval ⟨dst,.call c,type,pos,after,guard⟩).run P w=.ok (.value v) w':=fun v w' hv=>by
  have:c.args=#[x,y]:=by apply Array.ext';simpa using Hg
  simp[execOp,resolve,Hp,invoke,builtin,this,hv]
 have grow:∀(base:Option Addr) (cap:Nat) (olds:List Value) (hp:List (Nat×Ob)),a.eval x=.slice base l cap->dens ρ r=some olds->(Builtin.firstCells (z+1) l (a.eval x)).run P w.drew=.ok olds.toArray w.drew->¬l+m<=cap ->
  (∀k ob,find hp k=some ob->find s.heap k=some ob)->(fz=true->z=0) ->
  OpOk P W0 B ρ s w a ⟨dst,.call c,type,pos,after,guard⟩ (.val (.o (.a (.sli s.next 0 (z+1) (l+m)))) { heap:=(s.next,obOf fz e z (r++q))::hp,next:=s.next+1 }):=by
  intro base cap olds hp hx hr kz HQ Hl Hj;have H9:=Hh.grow (ty:=type) i0 Hs Hb Ht Hq hx kz h4 HQ h1 h2;have He:olds.length=l*(z+1):=by rw[zT hr,h5]
  have Hv:=grownCap_ge w (l+m) cap e;refine⟨_,_,_,upd ρ s.next ⟨w.drew.heap.size,0,grownCap w (l+m) cap e⟩,H8 _ _ H9,.inl rfl,?_,?_⟩
  . simp[V2.den,V1.den,At.den,upd,Hv]
  . refine hC.drew.new _ _ _ Hl fun ρ' Hd=>?_
    have H5:∀(i:Nat) x',(r++q)[i]?=some x'->∃v,x'.den ρ'=some v/\(olds.toArray++news.toArray++Builtin.zeroCells zv.cells (grownCap w (l+m) cap e-(l+m)))[0+i]?=some v:=fun i x' Hb=>by
     have hd:=y2t (y2Q Hd hr) (y2Q Hd n1);obtain⟨v,b1,b2⟩:=zl hd Hb;refine⟨v,b1,?_⟩;rw[Nat.zero_add,Array.getElem?_append_left]
     . simpa using b2
     . have:=lt_of_some (c:=(olds++news).toArray) (by simpa using b2)
       simpa using this
    have H6:0+grownCap w (l+m) cap e*(z+1)<=(olds.toArray++news.toArray++Builtin.zeroCells zv.cells (grownCap w (l+m) cap e-(l+m))).size:=by
     simp only[Array.size_append,List.size_toArray,y4z,Hr,He,kx,<-Nat.add_mul,Nat.zero_add];exact Nat.mul_le_mul_right _ (by omega)
    cases fz with
    | false=>exact⟨_,(0,0),heap_alloc_new w.drew _,fun i _=>by simp,H6,fun hk=>by omega,H5⟩
    | true=>
     have:=Hj rfl;subst this;exact⟨rfl,_,(0,0),heap_alloc_new w.drew _,.inl rfl,by simpa using H6,H5⟩
 have main:∀(n' k:Nat) (mm:Nm),ρ n'=some mm->n=some n'->k+l<=mm.cap->a.eval x=.slice (some ⟨mm.blk,mm.sh+k*(z+1),none⟩) l (mm.cap-k)->Old P ρ s w fz e z n' k l mm r ->
  OpOk P W0 B ρ s w a ⟨dst,.call c,type,pos,after,guard⟩ (.val (.o (.a (.sli s.next 0 (z+1) (l+m)))) { heap:=(s.next,obOf fz e z (r++q))::yIH s.heap n,next:=s.next+1 }):=by
  intro n' k mm hn k9 Ha hx ⟨ob,c0,fr,olds,hf,g1,g2,g3,g5,g6,a1,a2,a3⟩;subst k9;by_cases H7:l+m<=mm.cap-k
  . have kA:mm.sh+k*(z+1)+l*(z+1)+m*(z+1)<=c0.size:=by
     have:(k+l+m)*(z+1)<=mm.cap*(z+1):=Nat.mul_le_mul_right _ (by omega);rw[Nat.add_mul,Nat.add_mul]at this;omega
    have Hu:=run_storeCells_cells (P:=P) mm.blk (mm.sh+k*(z+1)+l*(z+1)) news 0 w
     (fun j hj=>by
       have:mm.sh+k*(z+1)+l*(z+1)+j<c0.size:=by omega
       simp[World.cell?,g1,this])
     (fun j hj=>by
       have Hm:mm.sh+k*(z+1)+l*(z+1)+j<c0.size:=by omega
       have:=g2 _ (by omega) Hm;simp only[World.frozen?,g1,Nat.add_zero];simpa using this)
     (y3s h7 n1)
    simp only[Nat.add_zero]at Hu;have H9:=Hh.room (ty:=type) i0 Hs Hb Ht Hq hx h4 h2 H7 Hu;obtain⟨c',b1,b2,b3,b4⟩:=y0P mm.blk news (mm.sh+k*(z+1)+l*(z+1)) w c0 _ fr g1;obtain⟨r1,r2,r3,r4,r5⟩:=y1T mm.blk news (mm.sh+k*(z+1)+l*(z+1)) w;refine⟨_,_,_,upd ρ s.next ⟨mm.blk,mm.sh+k*(z+1),mm.cap-k⟩,H8 _ _ H9,.inl rfl,?_,?_⟩
    . simp[V2.den,V1.den,At.den,upd,H7]
    . refine hC.move hn hf rfl ⟨r1,r2,r3,r4⟩ r5 fun ρ' Hd=>?_
      have H6:mm.sh+k*(z+1)+(mm.cap-k)*(z+1)<=c'.size:=by
       rw[b2,Nat.add_assoc,<-Nat.add_mul];have:k+(mm.cap-k)=mm.cap:=by omega
       rw[this];exact g3
      have H5:∀(i:Nat) x',(r++q)[i]?=some x'->∃v,x'.den ρ'=some v/\c'[mm.sh+k*(z+1)+i]?=some v:=fun i x' Hb=>by
       have hd:=y2t (y2Q Hd a1) (y2Q Hd n1);obtain⟨v,d1,d2⟩:=zl hd Hb;refine⟨v,d1,?_⟩;by_cases Hm:i<olds.length
       . rw[List.getElem?_append_left Hm]at d2
         rw[b3 _ (by omega)];exact a3 i v d2
       . rw[List.getElem?_append_right (by omega)]at d2
         have Ho:i-olds.length<news.length:=by
          rcases Nat.lt_or_ge (i-olds.length) news.length with h'|h'
          . exact h'
          . simp[List.getElem?_eq_none h']at d2
         have:=b4 (i-olds.length) v d2 (by omega)
         rwa [show mm.sh+k*(z+1)+l*(z+1)+(i-olds.length)=mm.sh+k*(z+1)+i by omega]at this
      cases Hj:fz with
      | false=>exact⟨c',fr,b1,fun i hi=>g5 Hj i (by omega),H6,fun hk=>by omega,H5⟩
      | true=>
       obtain⟨Hk,kD,Hy,hk,ky⟩:=g6 Hj;subst Hk;subst hk;refine⟨by simpa using Hy,c',fr,b1,ky.imp id fun hh=>?_,by simpa using H6,H5⟩;simp only[List.length_append];omega
  . refine grow _ _ olds (drop s.heap n') hx a1 ?_ H7 (fun k' ob Hi=>by
     rw[y8r]at Hi;split at Hi
     . cases Hi
     . exact Hi) (fun hf=>(g6 hf).1)
    rw[hx];refine run_firstCells_some w.drew _ _ _ _ _ olds a2 fun j v hj=>?_
    have:=a3 j v hj;rw[Addr.add_lit];show w.cell? _=some v;simpa[World.cell?,g1]using this
 unfold yEk at ho;split at ho
 . rename_i e1
   cases ho;rw[e1]at Hc;have hx:=zX Hc;exact grow none 0 [] s.heap hx rfl (by rw[hx];exact run_firstCells_none w.drew _ _ _ _) (by omega) (fun _ _ h=>h) (fun h=>by cases h)
 . rename_i n' off e1
   cases ho;rw[e1]at Hc;obtain⟨mm,hn,hx⟩:=y2A Hc;exact grow _ 0 [] s.heap hx rfl (by rw[hx];exact run_firstCells_some w.drew _ _ _ _ _ [] (by simp) (by simp)) (by omega) (fun _ _ h=>h) (fun h=>by cases h)
 . rename_i n' k z' len e1
   rw[e1]at Hc;obtain⟨mm,hn,Ha,hx⟩:=y2S Hc;split at ho
   . rename_i e' kk cs hf
     split at ho
     . rename_i r' hc Hz
       cases ho;simp only[Bool.and_eq_true,beq_iff_eq]at hc;obtain⟨⟨rfl,rfl⟩,rfl⟩:=hc;obtain⟨olds,a1,a2,a3⟩:=hC.range hn hf Hz;obtain⟨_,_,c0,fr,g1,g2,g3,g0,g4⟩:=hC.holds n' _ hf mm hn;refine main n' k mm hn rfl Ha hx ⟨_,c0,fr,olds,hf,g1,fun i _ hi=>g2 i hi,g3,fun _=>g2,(fun h=>by cases h),a1,a2,fun j v hj=>?_⟩;have:=a3 j v hj;rw[Addr.add_lit]at this;simpa[World.cell?,g1]using this
     . cases ho
   . rename_i e' cs hf
     split at ho
     . rename_i hc
       cases ho;simp only[Bool.and_eq_true,beq_iff_eq]at hc;obtain⟨⟨⟨⟨rfl,q2⟩,rfl⟩,rfl⟩,Hn⟩:=hc;have Hk:z=0:=by omega
       subst Hk;obtain⟨_,_,gs,c0,fr,g1,g2,g3,g4⟩:=hC.holds n' _ hf mm hn;obtain⟨olds,He⟩:=y28 (ρ:=ρ) (xs:=r) fun i x hi=>by
        obtain⟨v,hv,_⟩:=g4 i x hi;exact⟨v,hv⟩
       have kF:=zT He;refine main n' 0 mm hn rfl Ha hx ⟨_,c0,fr,olds,hf,g1,fun i Hv hi hh=>?_,by simpa using g3,(fun h=>by cases h),(fun _=>⟨rfl,Hn.symm,gs,rfl,g2⟩),He,by omega,fun j v hj=>?_⟩
       . rcases g2 with g2|g2<;>omega
       . have Ho:j<r.length:=by
          rcases Nat.lt_or_ge j olds.length with h'|h'
          . omega
          . simp[List.getElem?_eq_none h']at hj
         obtain⟨v',d1,d2⟩:=zl He (List.getElem?_eq_getElem Ho);rw[hj]at d2;cases d2;obtain⟨v'',d3,d4⟩:=g4 j _ (List.getElem?_eq_getElem Ho);rw[d1]at d3;cases d3;simpa using d4
     . cases ho
   . cases ho
 . cases ho
theorem yEs(hC:Conc W0 B ρ s w){c:Call}(Hd:∀x∈c.args,(ev x).den ρ=some (a.eval x))(H9:c.callee=.builtin .append)
 (h:y4w X ev c s=some out):OpOk P W0 B ρ s w a ⟨dst,.call c,type,pos,after,guard⟩ out:=by
 unfold y4w at h;split at h
 . rename_i x y t ts H6 H7
   have Hb:c.args=#[x,y]:=by apply Array.ext';simpa using H6
   have H8:=Hd x (by simp[Hb]);have Hc:=Hd y (by simp[Hb]);have H5:∀ {e z q:Nat} {zs:List At} {qq:List At},X.under t=some (.slice e)->zt X e=some z->appended X ts (y5L X ts) (ev y) q zs s.heap=some (0,qq)->(∃base l cp,a.eval x=.slice base l cp/\l<=cp) ->
    OpOk P W0 B ρ s w a ⟨dst,.call c,type,pos,after,guard⟩ (.val (ev x) s):=by
    intro e z q zs qq hu hz hw ⟨base,l,cp,hx,Hf⟩;have i0:c.argTypes[0]?=some t:=by
     have:c.argTypes[0]?=(t::ts)[0]?:=by rw[<-H7];simp
     rw[this];rfl
    have:=y9i (P:=P) (X:=X) (w:=w) (ty:=type) i0 (y08 hu) hz hx Hf (y80 (P:=P) H7 Hc hw);exact OpOk.same hC (by simp[execOp,resolve,H9,invoke,builtin,Hb,this]) H8
   split at h
   . rename_i e hu
     split at h
     . rename_i z info zs hz hi He
       split at h
       . rename_i m q hw
         split at h
         . rename_i n l r fz ho
           split at h
           . cases h
             exact H5 hu hz hw (yJS H8 ho)
           . rename_i m'
             split at h
             . rename_i hc
               rw[y82]at h;cases h;simp only[Bool.and_eq_true,beq_iff_eq,Nat.ble_eq]at hc;obtain⟨⟨⟨⟨⟨c1,c2⟩,c3⟩,c5⟩,c6⟩,c7⟩:=hc;exact y5z hC H8 Hc H9 H6 H7 hu hz hi He ho hw c1 c2 c3 (Nat.succ_pos _) c5 c6 c7
             . cases h
         . split at h
           . rename_i Ha
             cases h;refine H5 hu hz hw ?_;unfold isEmp at Ha;split at Ha
             . rename_i n k l size zz he
               rw[he]at H8;obtain⟨mm,_,_,hx⟩:=y2u H8;exact⟨_,_,_,hx,Nat.zero_le _⟩
             . cases Ha
           . cases h
       . cases h
     . cases h
   . cases h
 . cases h
end
variable [Sym]
open Go.RowKit
section
variable {P:Program} {X:Xt} [XOk P X] {W0:World} {B:Nat} {ρ:Rho} {s:St} {w:World} {a:Act} {ev:Operand->V2}
 {dst:Option Tmp} {type:TypeId} {pos:String} {after:Array Edge} {guard:Option (Nat×Bool)} {out:Out}
theorem y1f:∀ {r:List At}{bs:List UInt8}{vs:List Value},y2U r=some bs->dens ρ r=some vs->∃ns:List Int,vs=ns.map (Value.int .u8)/\bs=ns.map fun n=>UInt8.ofNat n.toNat
 | [],bs,vs,h,hd=>by simp[y2U]at h;simp[dens]at hd;subst h;subst hd;exact⟨[],rfl,rfl⟩
 | x::r,bs,vs,h,hd=>by
  obtain⟨v,us,a1,a2,rfl⟩:=ze.1 hd;unfold y2U at h;split at h
  . rename_i h0;cases h0
  . rename_i n r' H5
    cases H5;split at h
    . rename_i bs' hb
      cases h;obtain⟨ns,rfl,rfl⟩:=y1f hb a2;simp[At.den]at a1;subst a1;exact⟨n::ns,rfl,rfl⟩
    . cases h
  . cases h
theorem y3i:∀(ns:List Int) (b:ByteArray),ns.foldl (fun r n=>r.push (UInt8.ofNat n.toNat)) b=⟨b.data++(ns.map fun n=>UInt8.ofNat n.toNat).toArray⟩
 | [],b=>by simp
 | n::ns,b=>by
  rw[List.foldl_cons,y3i ns]
  congr 1
  apply Array.ext';simp[ByteArray.push]
theorem y9z{x:V2}{v:V1}(h:one? x=some v):x=.o v:=by
 cases x with
 | o y=>simp[one?]at h;rw[h]
 | t vs=>simp[one?]at h
theorem y5H:∀ {xs:List Operand}{vs:List V1},(∀x∈xs,(ev x).den ρ=some (a.eval x))->yCb (xs.map ev)=some vs->dens1 ρ vs=some (xs.map a.eval)
 | [],vs,_,h=>by simp[yCb]at h;subst h;rfl
 | x::xs,vs,hx,h=>by
  simp only[List.map_cons,yCb]at h;split at h
  . rename_i v us h1 h2
    cases h;have:=hx x (by simp);rw[y9z h1]at this;exact zg.2 ⟨_,_,this,y5H (fun y hy=>hx y (by simp[hy])) h2,rfl⟩
  . cases h
theorem y6I[hX:XOk P X]{f:FuncId}(h:y4a X f=true)(args:Array Value):(callFunc f args).run P w=.ok (.enter f args) w:=by
 unfold y4a at h;split at h
 . rename_i fn hf
   obtain⟨h1,h2,h3⟩:=hX.fn f fn hf;have h3:¬fn.name = "runtime.NumGoroutine" := by simpa using h3
   have h4:fn.body.isNone=false:=by cases hb:fn.body<;>simp[hb]at h2 ⊢
   unfold callFunc;simp[h1,h3,h4];intro h5;simp[h5]at h2
 . cases h
theorem yK5{c:Call}{x:Operand}(h:c.args.toList = [x]):c.args=#[x]:=by apply Array.ext';simpa using h
theorem types1{c:Call}{t:TypeId}(h:c.argTypes.toList = [t]):c.argTypes=#[t]:=by apply Array.ext';simpa using h
theorem yIa(hC:Conc W0 B ρ s w){c:Call}(H9:∀x∈c.args,(ev x).den ρ=some (a.eval x))(H7:c.callee=.builtin .len)
 (h:yDn X ev c s=some out):OpSt P ρ s w a ⟨dst,.call c,type,pos,after,guard⟩ out:=by
 unfold yDn at h;split at h
 . rename_i x t hx ht
   have H5:=yK5 hx;have H8:=types1 ht;have H6:=H9 x (by simp[H5]);have fin:∀(el:TypeId) (b:Option Addr) (l cp:Nat),X.under t=some (.slice el)->a.eval x=.slice b l cp->out=.val (.o (.a (.lit (.int .i64 l)))) s->OpSt P ρ s w a ⟨dst,.call c,type,pos,after,guard⟩ out:=by
    intro el b l cp hu he ho;subst ho;exact OpSt.same (val:=.int .i64 l) (by simp[execOp,resolve,H7,H5,H8,invoke,builtin,Builtin.len_,zO (P:=P) hu,he,goInt]) rfl
   split at h
   . rename_i b e
     rw[e]at H6;have he:=zX H6;split at h
     . rename_i hu
       unfold okO at h;split at h
       . rename_i v hv
         rw[yA9,Nat.zero_add]at hv;obtain⟨_,rfl⟩:=y23 hv;cases h;refine OpSt.same (val:=.int .i64 (b.data.toList.length:Nat)) ?_ rfl;have:b.size=b.data.toList.length:=by simp
         simp[execOp,resolve,H7,H5,H8,invoke,builtin,Builtin.len_,zO (P:=P) hu,he,goInt]
       . cases h
     . cases h
   . rename_i i e
     rw[e]at H6;split at h
     . rename_i r hu hr
       obtain⟨b,h1,h2⟩:=XOk.slen (P:=P) i r hr;cases h;have he:a.eval x=.string b:=(Option.some.inj (show some (Sym.v i)=some (a.eval x) from H6)).symm.trans h1;have hb:b.size=b.data.toList.length:=by simp
       refine OpSt.same (val:=.int .i64 (b.size:Nat)) ?_ (h2 ρ);simp[execOp,resolve,H7,H5,H8,invoke,builtin,Builtin.len_,zO (P:=P) hu,he,goInt]
     . cases h
   . rename_i n k z l e
     rw[e]at H6;obtain⟨m,hn,he⟩:=y19 H6;split at h
     . rename_i el hu;exact fin el _ _ _ hu he (Option.some.inj h).symm
     . cases h
   . rename_i n o l cp e
     rw[e]at H6;obtain⟨m,hn,he⟩:=y2A H6;split at h
     . rename_i el hu;exact fin el _ _ _ hu he (Option.some.inj h).symm
     . cases h
   . rename_i n k l z zz e
     rw[e]at H6;obtain⟨m,hn,_,he⟩:=y2u H6;split at h
     . rename_i el hu;exact fin el _ _ _ hu he (Option.some.inj h).symm
     . cases h
   . cases h
 . cases h
theorem yJX(hC:Conc W0 B ρ s w){c:Call}(H6:∀x∈c.args,(ev x).den ρ=some (a.eval x))(H7:c.callee=.builtin .copy)
 (h:y9X X ev c s=some out):OpSt P ρ s w a ⟨dst,.call c,type,pos,after,guard⟩ out:=by
 unfold y9X at h;split at h
 . rename_i x y t ts hx ht
   have H5:c.args=#[x,y]:=by apply Array.ext';simpa using hx
   have Hb:c.argTypes[0]?=some t:=by
    have:c.argTypes[0]?=(t::ts)[0]?:=by rw[<-ht];simp
    rw[this];rfl
   have H9:=H6 x (by simp[H5]);have H8:=H6 y (by simp[H5]);split at h
   . rename_i el n k z hu e1 e2
     rw[e1]at H9;rw[e2]at H8;obtain⟨m,hn,he⟩:=y19 H9;have hy:=zX H8;split at h
     . rename_i q hz
       cases h;have Ha:∀ad:Addr,(storeCells ad []).run P w=.ok () w:=fun ad=>rfl
       refine OpSt.same (val:=.int .i64 0) ?_ rfl;simp[execOp,resolve,H7,H5,Hb,invoke,builtin,Builtin.copy_,Builtin.lenOf,Builtin.firstCells,zO (P:=P) hu,zY (P:=P) hz,he,hy,goInt,Ha]
     . cases h
   . cases h
 . cases h
theorem yJW(hC:Conc W0 B ρ s w){c:Call}(H9:∀x∈c.args,(ev x).den ρ=some (a.eval x))(H8:c.callee=.builtin .unsafeSliceData)
 (h:y9W ev c s=some out):OpSt P ρ s w a ⟨dst,.call c,type,pos,after,guard⟩ out:=by
 unfold y9W at h;split at h
 . rename_i x hx
   have H5:=yK5 hx;have Ha:=H9 x (by simp[H5]);split at h
   . rename_i n k size l e
     rw[e]at Ha;obtain⟨m,hn,hc,he⟩:=y2S Ha;cases h;refine OpSt.same (val:=.pointer (some ⟨m.blk,m.sh+k*size,none⟩)) ?_ (by simp[V2.den,V1.den,At.den,hn]);have h0:m.cap-k≠0:=by omega
     have H6:∀(ad:Addr) (cp:Nat),cp≠0->(Builtin.unsafeSliceData_ c.argTypes type #[.slice (some ad) (l+1) cp]).run P w=.ok (.pointer (some ad)) w:=by
      intro ad cp Hb;have H7:Builtin.unsafeSliceData_ c.argTypes type #[.slice (some ad) (l+1) cp] =
       (do
         if cp≠0 then pure (.pointer (some ad))
         else if(<-viewAt ad.block).isSome then pure (.pointer (some ad))
         else pure (.pointer (some ⟨<-newObj (.view ad (<-elemOf type)),0,none⟩))):=rfl
      rw[H7];simp[Hb]
     simp only[execOp,resolve,H8,H5,invoke,builtin];simp[he,H6 _ _ h0]
   . cases h
 . cases h
theorem y2f:∀(ns:List Int) (ad:Addr) (acc:ByteArray),(∀j x,ns[j]?=some x->w.cell? (ad.add j)=some (.int .u8 x)) ->
 (loadBytes ad acc ns.length).run P w=.ok (ns.foldl (fun r n=>r.push (UInt8.ofNat n.toNat)) acc) w
 | [],ad,acc,h=>rfl
 | n::ns,ad,acc,h=>by
  have h0:=h 0 n rfl;have H5:ad.add 0=ad:=by unfold Addr.add;split<;>simp_all
  rw[H5]at h0;have ih:=y2f ns (ad.add 1) (acc.push (UInt8.ofNat n.toNat)) fun j x hj=>by
   have:=h (j+1) x (by simpa using hj);have e:(ad.add 1).add j=ad.add (j+1):=by unfold Addr.add;split<;>split<;>simp_all[Nat.add_comm,Nat.add_left_comm]
   rw[e];exact this
  have hl:(load ad).run P w=.ok (.int .u8 n) w:=by simp[h0]
  simp only[List.length_cons,loadBytes,Sem.run_bind,hl,Result.andThen_ok,List.foldl_cons];exact ih
theorem yAK(w:World)(b n:Nat)(hn:n≠0):((w.freeze ⟨b,0,none⟩ n).os=w.os/\(w.freeze ⟨b,0,none⟩ n).tape=w.tape/\(w.freeze ⟨b,0,none⟩ n).output=w.output/\(w.freeze ⟨b,0,none⟩ n).heap.size=w.heap.size) /\
 (∀k,k≠b->(w.freeze ⟨b,0,none⟩ n).heap[k]?=w.heap[k]?)/\∀c e fr,w.heap[b]?=some (.cells c e fr)->(w.freeze ⟨b,0,none⟩ n).heap[b]?=some (.cells c e (if fr.1==fr.2 then(0,0+n)else(min fr.1 0,max fr.2 (0+n)))):=by
 unfold World.freeze;rw[if_neg hn];refine⟨⟨rfl,rfl,rfl,by simp⟩,fun k hk=>by simp[Array.getElem?_modify,Ne.symm hk],fun c e fr h=>by simp[Array.getElem?_modify,h]⟩
theorem yEm(hC:Conc W0 B ρ s w){c:Call}(Hb:∀x∈c.args,(ev x).den ρ=some (a.eval x))(Hi:c.callee=.builtin .unsafeString)
 (h:y4v X ev c s=some out):OpOk P W0 B ρ s w a ⟨dst,.call c,type,pos,after,guard⟩ out:=by
 unfold y4v at h;split at h
 . rename_i x y pt it hx ht
   have H5:c.args=#[x,y]:=by apply Array.ext';simpa using hx
   have Hk:c.argTypes=#[pt,it]:=by apply Array.ext';simpa using ht
   have Hl:=Hb x (by simp[H5]);have Hq:=Hb y (by simp[H5]);split at h
   . rename_i n off l e' e1 hl hu
     rw[e1]at Hl;obtain⟨m,hn,he⟩:=zy Hl;obtain⟨ki,hk⟩:=zn hl Hq;split at h
     . rename_i e cs hf
       split at h
       . rename_i bs hc hz Hz
         cases h;simp only[Bool.and_eq_true,beq_iff_eq,Nat.ble_eq]at hc;obtain⟨⟨⟨rfl,kx⟩,rfl⟩,Hv⟩:=hc;obtain⟨_,HQ,Hd,c0,fr,g1,g2,g3,g4⟩:=hC.holds n _ hf m hn;obtain⟨vs,Hc⟩:=y28 (ρ:=ρ) (xs:=cs) fun i x hi=>by
          obtain⟨v,hv,_⟩:=g4 i x hi;exact⟨v,hv⟩
         obtain⟨ns,rfl,rfl⟩:=y1f Hz Hc;have Hs:ns.length=l+1:=by have:=zT Hc;simp at this;omega
         have Ha:∀j x,ns[j]?=some x->w.cell? ((⟨m.blk,0,none⟩:Addr).add j)=some (.int .u8 x):=fun j x hj=>by
          have Hn:j<cs.length:=by
           rcases Nat.lt_or_ge j ns.length with h'|h'
           . omega
           . simp[List.getElem?_eq_none h']at hj
          obtain⟨v,b1,b2⟩:=g4 j _ (List.getElem?_eq_getElem Hn);obtain⟨v',b3,b4⟩:=zl Hc (List.getElem?_eq_getElem Hn);rw[b1]at b3;cases b3;simp[hj]at b4;subst b4;rw[Hd]at b2;rw[Addr.add_lit];simpa[World.cell?,g1]using b2
         have ky:cs.length<=c0.size:=by
          have H9:l<cs.length:=by omega
          obtain⟨v,b1,b2⟩:=g4 l _ (List.getElem?_eq_getElem H9);have:=lt_of_some b2;omega
         have Hm:=y2f (P:=P) (w:=w) ns ⟨m.blk,0,none⟩ .empty Ha;rw[y3i,Hs]at Hm;have Ho:P.cellsOf e'=1:=by
          unfold zt at hz;split at hz
          . rename_i i hi;simp[Program.cellsOf,y1c (P:=P) hi];simpa using hz
          . cases hz
         have H8:=Go.Lib.liesAt_bytes (P:=P) Ho (c0.size/P.cellsOf e') (l+1) (by rw[Ho];simp;omega);have H6:w.shape? m.blk=some (e',c0.size):=by simp[World.shape?,g1]
         have Hg:IntKind.i64.max=9223372036854775807:=rfl;have Hf:¬(((l+1:Nat):Int))<0:=by omega
         have Hj:¬(9223372036854775807:Int)<((l+1:Nat):Int):=by omega
         have Hu:¬(((l+1:Nat):Int))=0:=by omega
         have Hr:(((l+1:Nat):Int)).toNat=l+1:=rfl;have He:(Builtin.unsafeString_ #[pt,it] type #[.pointer (some ⟨m.blk,0,none⟩),.int ki ((l+1:Nat):Int)]).run P w =
          .ok (.string ⟨(ns.map fun n=>UInt8.ofNat n.toNat).toArray⟩) (w.freeze ⟨m.blk,0,none⟩ (l+1)):=by
          have Hh:Builtin.unsafeString_ #[pt,it] type #[.pointer (some ⟨m.blk,0,none⟩),.int ki ((l+1:Nat):Int)] =
           (do
             let n <-asInt (.int ki ((l+1:Nat):Int))
             if n<0 then runtimePanic (.error "unsafe.String: len out of range")
             if n > IntKind.i64.max then unsupported (.unsafePointer "String: a length above the largest int")
             if n=0 then pure (.string .empty)
             else if <-variablesAt ⟨m.blk,0,none⟩ (<-elemOf pt) n.toNat then do
              let s <-loadBytes ⟨m.blk,0,none⟩ .empty n.toNat
              freeze ⟨m.blk,0,none⟩ n.toNat
              pure (.string s)
             else unsupported (.unsafePointer "String: not so many bytes at ptr")):=rfl
          have k9:(asInt (.int ki ((l+1:Nat):Int))).run P w=.ok ((l+1:Nat):Int) w:=rfl;rw[Hh];simp only[Sem.run_bind,k9,Result.andThen_ok,if_neg Hf,Sem.run_pure,Hg,gt_iff_lt,if_neg Hj,if_neg Hu,Hr];simp[variablesAt,H6,elemOf,zO (P:=P) hu,H8,Hm]
         have Hp:¬(l+1=0):=by omega
         obtain⟨q1,q2,q3⟩:=yAK w m.blk (l+1) Hp;have H7:=hC.turn (ob':=.fro e' cs) (w':=w.freeze ⟨m.blk,0,none⟩ (l+1)) hn hf q1 q2 (by
          refine⟨Hd,c0,_,q3 c0 e' fr g1,?_,g3,g4⟩
          . right
            split
            . simp;omega
            . rename_i hh
              have hh:¬fr.1=fr.2:=by simpa using hh
              rcases g2 with g2|g2
              . exact absurd g2 hh
              . simp;omega)
         refine⟨_,.string ⟨(ns.map fun n=>UInt8.ofNat n.toNat).toArray⟩,_,ρ,?_,.inl rfl,rfl,fun _ _=>rfl,Nat.le_refl _,H7.sub fun k ob hk=>?_⟩
         . have Hy:a.eval x=.pointer (some ⟨m.blk,0,none⟩):=by rw[he,Hd]
           have Hw:a.eval y=.int ki ((l+1:Nat):Int):=hk;simp only[execOp,resolve,Hi,H5,Hk,invoke,builtin];simp only[Array.map_push,List.map_toArray,List.map_cons,List.map_nil,Hy,Hw,Sem.run_bind,Sem.run_pure,Result.andThen_ok,He]
         . show find (repl s.heap n (.fro e' cs)) k=some ob
           rw[y8q];split
           . rename_i Ht;subst Ht;rw[hf]at hk;cases hk;simp[hf]
           . exact hk
       . cases h
     . cases h
   . cases h
 . cases h
theorem yBB{l:List (Nat×Nat)}{vs:List Value}(h:ptrsDen ρ l=some vs):dens1 ρ (l.map fun c=>.a (.ptr c.1 c.2))=some vs:=by
 induction l generalizing vs with
 | nil=>simp[ptrsDen]at h;subst h;rfl
 | cons x xs ih=>
  simp only[ptrsDen]at h;split at h
  . rename_i v us h1 h2
    cases h;rw[List.map_cons];exact zg.2 ⟨v,us,h1,ih h2,rfl⟩
  . cases h
theorem y29:∀ {xs ys:List V1}{vs us:List Value},dens1 ρ xs=some vs->dens1 ρ ys=some us->dens1 ρ (xs++ys)=some (vs++us)
 | [],ys,vs,us,h1,h2=>by simp[dens1]at h1;subst h1;exact h2
 | x::xs,ys,vs,us,h1,h2=>by
  obtain⟨v,ws,a1,a2,rfl⟩:=zg.1 h1;exact zg.2 ⟨v,ws++us,a1,y29 a2 h2,rfl⟩
theorem ok_fn[hX:XOk P X](hC:Conc W0 B ρ s w){c:Call}{f:Operand}(hf:(ev f).den ρ=some (a.eval f))(H7:∀x∈c.args,(ev x).den ρ=some (a.eval x))(H6:c.callee=.value f)
 (h:yJ0 X ev c (ev f) s=some out):OpOk P W0 B ρ s w a ⟨dst,.call c,type,pos,after,guard⟩ out:=by
 unfold yJ0 at h;split at h
 . rename_i g p q hg
   rw[hg]at hf;have he:=zX hf;split at h
   . rename_i Ha
     simp only[Bool.and_eq_true,beq_iff_eq]at Ha;have hp:p=#[]:=Array.size_eq_zero_iff.1 Ha.1;have hq:q=#[]:=Array.size_eq_zero_iff.1 Ha.2;subst hp;subst hq;split at h
     . rename_i hb
       split at h
       . rename_i vs Hf
         cases h;have hd:=y5H (ρ:=ρ) (a:=a) (fun x hx=>H7 x (by simpa using hx)) Hf;refine⟨rfl,c.args.toList.map a.eval,?_,hd⟩;have:(c.args.toList.map a.eval).toArray=c.args.map a.eval:=by apply Array.ext';simp
         rw[this];simp[execOp,resolve,H6,he,Deferred.ofValue,invoke,y6I (P:=P) hb]
       . cases h
     . split at h
       . rename_i x hx
         have H5:=yK5 hx;have H9:=H7 x (by simp[H5]);split at h
         . rename_i Hb
           have Hb:X.noEsc=some g:=by simpa using Hb
           unfold y6D at h;split at h
           . rename_i n off e
             cases h;refine OpOk.same hC (val:=a.eval x) ?_ (by rw[<-e];exact H9);simp[execOp,resolve,H6,he,H5,Deferred.ofValue,invoke,hX.noEsc g Hb]
           . cases h
         . unfold yDm at h
           split at h
           . rename_i g' e n Hh e1
             split at h
             . rename_i Hc Hi
               cases h;have Hc:g'=g:=by simpa using Hc
               subst Hc;rw[e1]at H9;have Hd:=zX H9;obtain⟨cs,hr,Hg⟩:=hX.noZero g' e Hh n w (Nat.le_of_ble_eq_true Hi);refine⟨_,.slice (some ⟨w.heap.size,0,none⟩) n cs.size,w.drew.drew.alloc (.cells cs e),upd ρ s.next ⟨w.drew.drew.heap.size,0,cs.size⟩,?_,.inl rfl,?_,?_⟩
               . have H8:a.eval x=.int .i64 ((n:Nat):Int):=Hd
                 simp[execOp,resolve,H6,he,H5,Deferred.ofValue,invoke,H8,hr]
               . simp[V2.den,V1.den,At.den,upd,Hg]
               . exact hC.drew.drew.new _ (.fro e []) cs.size (fun _ _ h=>h) fun ρ' Hj=>⟨rfl,cs,(0,0),heap_alloc_new w.drew.drew _,.inl rfl,by simp,fun i x hi=>by simp at hi⟩
             . cases h
           . cases h
       . cases h
   . cases h
 . rename_i g fs caps hg
   rw[hg]at hf;obtain⟨us,vs,h1,h2,he⟩:=yGB hf;split at h
   . rename_i ws hb He
     cases h;have hd:=y5H (ρ:=ρ) (a:=a) (fun x hx=>H7 x (by simpa using hx)) He;refine⟨rfl,us++c.args.toList.map a.eval++vs,?_,y29 (y29 (yBB h1) hd) (yBB h2)⟩;have:(us++c.args.toList.map a.eval++vs).toArray=us.toArray++c.args.map a.eval++vs.toArray:=by apply Array.ext';simp
     rw[this];simp[execOp,resolve,H6,he,Deferred.ofValue,invoke,y6I (P:=P) hb]
   . cases h
 . cases h
theorem yJY(hC:Conc W0 B ρ s w){c:Call}(H7:∀x∈c.operands,(ev x).den ρ=some (a.eval x))
 (h:symCall X ev c s=some out):OpOk P W0 B ρ s w a ⟨dst,.call c,type,pos,after,guard⟩ out:=by
 have H6:∀x∈c.args,(ev x).den ρ=some (a.eval x):=fun x hx=>H7 x (by simp[Call.operands,hx])
 unfold symCall at h;split at h
 . rename_i f H5
   exact ok_fn hC (H7 f (by simp[Call.operands,H5])) H6 H5 h
 . rename_i H5;exact(yIa hC H6 H5 h).ok hC
 . rename_i H5;exact yEs hC H6 H5 h
 . rename_i H5;exact(yJX hC H6 H5 h).ok hC
 . rename_i H5;exact(yJW hC H6 H5 h).ok hC
 . rename_i H5;exact yEm hC H6 H5 h
 . cases h
end
variable [Sym]
open Go.RowKit
section
variable {P:Program} {X:Xt} [XOk P X] {W0:World} {B:Nat} {ρ:Rho} {s:St} {w:World} {a:Act} {ev:Operand->V2}
 {dst:Option Tmp} {type:TypeId} {pos:String} {after:Array Edge} {guard:Option (Nat×Bool)} {out:Out}
theorem yBi(off:Nat):∀(vs:List Value) (k:Nat) (arr:Array Value),off+k+vs.length<=arr.size ->
 ((vs.zipIdx k).foldl (fun(cs:Array Value) (x:Value×Nat)=>cs.setIfInBounds (off+x.2) x.1) arr).toList=setCells arr.toList (off+k) vs
 | [],k,arr,_=>by simp[setCells]
 | v::vs,k,arr,h=>by
  simp only[List.zipIdx_cons,List.foldl_cons];rw[yBi off vs (k+1) _ (by simp at h ⊢;omega)];apply List.ext_getElem?;intro i;rw[y0D _ _ _ (by simp at h ⊢;omega),y0D _ _ _ (by simp at h ⊢;omega)];simp only[List.length_cons]at h ⊢;by_cases h1:off+(k+1)<=i/\i<off+(k+1)+vs.length
  . rw[if_pos h1,if_pos (by omega),show i-(off+k)=(i-(off+(k+1)))+1 by omega,List.getElem?_cons_succ]
  . rw[if_neg h1]
    by_cases h2:i=off+k
    . subst h2
      rw[if_pos (by omega),Nat.sub_self];have:off+k<arr.size:=by omega
      simp[this]
    . rw[if_neg (by omega)]
      rw[Array.toList_setIfInBounds,List.getElem?_set_ne (by omega)]
inductive PartsDen (ρ:Rho):List (Nat×V1)->List (Nat×Value)->Prop
 | nil:PartsDen ρ [] []
 | cons {i:Nat} {x:V1} {v:Value} {xs:List (Nat×V1)} {vs:List (Nat×Value)} (h:x.den ρ=some v) (t:PartsDen ρ xs vs):PartsDen ρ ((i,x)::xs) ((i,v)::vs)
theorem y0q:∀ {ps:List (Nat×Operand)}{parts:List (Nat×V1)},(∀x∈ps.map (·.2),(ev x).den ρ=some (a.eval x))->partsOf ev ps=some parts->PartsDen ρ parts (ps.map fun p=>(p.1,a.eval p.2))
 | [],parts,_,h=>by simp[partsOf]at h;subst h;exact .nil
 | (i,x)::ps,parts,hx,h=>by
  simp only[partsOf]at h;split at h
  . rename_i v vs h1 h2
    cases h;have:=hx x (by simp);rw[y9z h1]at this;exact .cons this (y0q (fun y hy=>hx y (by simp at hy ⊢;exact .inr hy)) h2)
  . cases h
theorem y5d{place:Nat->Option (Nat×Nat)}:∀ {parts:List (Nat×V1)}{vp:List (Nat×Value)}{cells cs:List At}{us:Array Value},PartsDen ρ parts vp->dens ρ cells=some us.toList->fillP place cells parts=some cs ->
 ∃us',Instr.fill place us vp=some us'/\dens ρ cs=some us'.toList
 | [],_,cells,cs,us,.nil,hd,h=>by simp[fillP]at h;subst h;exact⟨us,rfl,hd⟩
 | (i,x)::parts,_,cells,cs,us,.cons (v:=v) (vs:=vs) hx ht,hd,h=>by
  simp only[fillP]at h;split at h
  . cases h
  . rename_i off size hp
    split at h
    . rename_i hc
      simp only[Bool.and_eq_true,beq_iff_eq,Nat.ble_eq]at hc;have H6:=y99 hx;have hl:=zT H6;have H7:=zT hd;have H5:(v.cells.zipIdx.foldl (fun(cs:Array Value) (x:Value×Nat)=>cs.setIfInBounds (off+x.2) x.1) us).toList=setCells us.toList off v.cells.toList:=by
       rw[<-Array.foldl_toList];have:=yBi off v.cells.toList 0 us (by simp at hl H7 ⊢;omega);simpa using this
      obtain⟨us',a1,a2⟩:=y5d (us:=(v.cells.zipIdx.foldl (fun(cs:Array Value) (x:Value×Nat)=>cs.setIfInBounds (off+x.2) x.1) us)) ht (by rw[H5];exact y7r hd H6 off (by omega)) h;refine⟨us',?_,a2⟩;simp only[Instr.fill,hp];rw[if_neg]
      . exact a1
      . simp at hl H7 ⊢;omega
    . cases h
theorem run_places:∀ {fs:List Field}{pl:List (Nat×Nat)},y5B X fs=some pl->(fs.mapM fun f=>(do pure (f.offset,<-sizeOf f.type):Sem (Nat×Nat))).run P w=.ok pl w
 | [],pl,h=>by simp[y5B]at h;subst h;simp
 | f::fs,pl,h=>by
  simp only[y5B]at h;split at h
  . rename_i z r h1 h2
    cases h;have ih:=run_places h2;simp[List.mapM_cons,zY (P:=P) h1]at ih ⊢;simp[ih]
  . cases h
theorem y0B{e:TypeId}{zs:List At}(h:zeroOf X e=some zs):∃zv,(∀w:World,(zeroValue e).run P w=.ok zv w)/\zs=zv.cells.toList.map .lit:=by
 unfold zeroOf at h;split at h
 . rename_i i hi
   have hi:=y1c (P:=P) hi;split at h
   . rename_i v hv;cases h;exact⟨v,fun w=>by simp[zeroValue,typeInfo,hi,hv],rfl⟩
   . cases h
 . cases h
theorem yBL(hC:Conc W0 B ρ s w){t:Nat}{ps:Array (Nat×Operand)}(H8:∀x∈(Op.build t ps).operands,(ev x).den ρ=some (a.eval x))
 (h:y4P X ev t ps s=some out):OpSt P ρ s w a ⟨dst,.build t ps,type,pos,after,guard⟩ out:=by
 simp only[Op.operands]at H8;have H9:(ps.map fun x=>(x.1,a.eval x.2)).toList=ps.toList.map fun p=>(p.1,a.eval p.2):=by simp
 unfold y4P at h;split at h
 . rename_i z fs parts hz hu hp
   obtain⟨zv,h0,rfl⟩:=y0B (P:=P) hz;have H6:=y0q (ρ:=ρ) (a:=a) (fun x hx=>H8 x (by simpa using hx)) hp;split at h
   . rename_i pl H5
     split at h
     . rename_i cs hf
       cases h;obtain⟨us',a1,a2⟩:=y5d H6 (y15 (ρ:=ρ) zv.cells.toList) hf;refine OpSt.same (val:=.agg us') ?_ (by simp[V2.den,V1.den,a2]);have hm:=run_places (P:=P) (w:=w) H5;have H7:(fun(i:Nat)=>pl.toArray[i]?)=fun(i:Nat)=>pl[i]?:=by funext i;simp
       simp at hm;simp[execOp,Instr.build,h0,zO (P:=P) hu,Array.mapM_eq_mapM_toList,hm,H7,a1]
     . cases h
   . cases h
 . rename_i z len e parts hz hu hp
   obtain⟨zv,h0,rfl⟩:=y0B (P:=P) hz;have H6:=y0q (ρ:=ρ) (a:=a) (fun x hx=>H8 x (by simpa using hx)) hp;split at h
   . rename_i k hk
     split at h
     . rename_i cs hf
       cases h;obtain⟨us',a1,a2⟩:=y5d H6 (y15 (ρ:=ρ) zv.cells.toList) hf;refine OpSt.same (val:=.agg us') ?_ (by simp[V2.den,V1.den,a2]);simp[execOp,Instr.build,h0,zO (P:=P) hu,zY (P:=P) hk,a1]
     . cases h
   . cases h
 . cases h
end
variable [Sym]
open Go.RowKit
section
variable {P:Program} {X:Xt} [XOk P X] {W0:World} {B:Nat} {ρ:Rho} {s:St} {w:World} {a:Act} {ev:Operand->V2}
 {dst:Option Tmp} {type:TypeId} {pos:String} {after:Array Edge} {guard:Option (Nat×Bool)} {out:Out}
theorem y9L(hC:Conc W0 B ρ s w)(e k len cap:Nat)(zero:Array Value)(cs:List At)(hk:0<k)(H6:∀(i:Nat) (x:At),cs[i]?=some x->∃v,x.den ρ=some v/\zero[i]?=some v)(H5:cap*k<=zero.size):
 Step W0 B ρ s (upd ρ s.next ⟨w.heap.size,0,cap⟩) { heap:=(s.next,.cells e k cs)::s.heap,next:=s.next+1 } (w.alloc (.cells zero e)):=by
 refine hC.new _ _ cap (fun _ _ h=>h) fun ρ' hx=>?_
 refine⟨zero,(0,0),heap_alloc_new w _,fun i _=>by simp,by simpa using H5,fun h0=>by omega,fun i x hi=>?_⟩;obtain⟨v,a1,a2⟩:=H6 i x hi;exact⟨v,At.den_ext hx a1,by simpa using a2⟩
theorem y7R(hC:Conc W0 B ρ s w){t len:Nat}{ps:Array (Nat×Operand)}(H8:∀x∈(Op.buildSlice t len ps).operands,(ev x).den ρ=some (a.eval x))
 (h:y0b X ev (.buildSlice t len ps) s=some out):OpOk P W0 B ρ s w a ⟨dst,.buildSlice t len ps,type,pos,after,guard⟩ out:=by
 simp only[Op.operands]at H8;have Hc:(ps.map fun x=>(x.1,a.eval x.2)).toList=ps.toList.map fun p=>(p.1,a.eval p.2):=by simp
 simp only[y0b,y2F]at h;split at h
 . rename_i e0 k0 cs0 ln0 H5
   cases h;split at H5
   . rename_i e parts hu hp
     have H9:=y0q (ρ:=ρ) (a:=a) (fun x hx=>H8 x (by simpa using hx)) hp;split at H5
     . rename_i k z hk hz
       obtain⟨zv,h0,rfl⟩:=y0B (P:=P) hz;split at H5
       . rename_i cs hc hf
         cases H5;simp only[Bool.and_eq_true,beq_iff_eq,Nat.ble_eq,List.length_map,Array.length_toList]at hc;obtain⟨us',a1,a2⟩:=y5d H9 (y2s (ρ:=ρ) (n:=len) hc.1) hf;have H7:¬(16777216<len*(k+1)):=by omega
         have Hb:us'.size=len*(k+1):=by
          have h1:=zT a2;have h2:cs0.length=len*(k+1):=by
           have:∀ {parts:List (Nat×V1)} {cells cs:List At} {place:Nat->Option (Nat×Nat)},fillP place cells parts=some cs->cs.length=cells.length:=by
            intro parts
            induction parts with
            | nil=>intro cells cs place h;simp[fillP]at h;rw[h]
            | cons p r ih=>
             intro cells cs place h;obtain⟨i,v⟩:=p;simp only[fillP]at h;split at h
             . cases h
             . split at h
               . rename_i hc
                 simp only[Bool.and_eq_true,beq_iff_eq,Nat.ble_eq]at hc;rw[ih h,y0G _ _ _ (by omega)]
               . cases h
           rw[this hf,repeatL_length];simp[hc.1]
          simp at h1;omega
         refine⟨_,.slice (some ⟨w.heap.size,0,none⟩) len len,_,_,?_,.inl rfl,?_,y9L hC e0 (k+1) len len us' cs0 (by omega) (fun i x hi=>by
          obtain⟨v,b1,b2⟩:=zl a2 hi;exact⟨v,b1,by simpa using b2⟩) (by omega)⟩
         . rcases Nat.eq_zero_or_pos len with hl|hl
           . subst hl
             simp[Array.range_zero']at a1;simp[execOp,Instr.buildSlice,zO (P:=P) hu,zY (P:=P) hk,newRow,Array.range_zero',a1]
           . have Ha:¬len*(k+1)=0:=by
              have:1*1<=len*(k+1):=Nat.mul_le_mul hl (by omega);omega
             have H6:¬len=0:=by omega
             simp[execOp,Instr.buildSlice,zO (P:=P) hu,zY (P:=P) hk,H7,Ha,H6,h0,newRow,a1]
         . simp[allocV,V2.den,V1.den,At.den,upd]
       . cases H5
     . cases H5
   . cases H5
 . cases h
theorem y8c(hC:Conc W0 B ρ s w){t:Nat}{l c:Operand}(Hh:(ev l).den ρ=some (a.eval l))(Hi:(ev c).den ρ=some (a.eval c))
 (h:y73 X t (ev l) (ev c) s=some out):OpOk P W0 B ρ s w a ⟨dst,.makeSlice t l c,type,pos,after,guard⟩ out:=by
 unfold y73 at h;split at h
 . rename_i e ln cp hu hl hc
   obtain⟨kl,H8⟩:=zn hl Hh;obtain⟨kc,H9⟩:=zn hc Hi;split at h
   . rename_i z info zs hz hi Hc
     have hi:=y1c (P:=P) hi;split at h
     . rename_i Ha
       cases h;obtain⟨zv,h0,rfl⟩:=y0B (P:=P) Hc;simp only[Bool.and_eq_true,beq_iff_eq,Nat.ble_eq,List.length_map,Array.length_toList]at Ha;obtain⟨⟨⟨c1,c2⟩,c3⟩,c4⟩:=Ha;have Hl:cp<=cp*(z+1):=Nat.le_mul_of_pos_right _ (by omega);have H6:IntKind.i64.wrap (ln:Int)=ln:=by rw[IntKind.wrap_i64];omega
       have H7:IntKind.i64.wrap (cp:Int)=cp:=by rw[IntKind.wrap_i64];omega
       have Hj:((info.bytes:Nat):Int)*(cp:Int)<=1000000:=by
        rw[<-Int.natCast_mul];omega
       refine⟨_,.slice (some ⟨w.heap.size,0,none⟩) ln cp,w.alloc (.cells ((Array.range (cp*(z+1))).map (zv.cells[· % zv.cells.size]!)) e),_,?_,.inl rfl,?_,y9L hC e (z+1) ln cp _ _ (by omega) (fun i x hx=>?_) (by simp)⟩
       . have g1:¬((cp:Int)<0):=by omega
         have g2:¬(281474976710656<(info.bytes:Int)*(cp:Int)):=by omega
         have g3:¬((ln:Int)<0):=by omega
         have g4:¬((cp:Int)<(ln:Int)):=by omega
         have g5:¬(cp<ln):=by omega
         clear Hj c2 c3;rcases Nat.eq_zero_or_pos cp with Hb|Hb
         . subst Hb
           have Hd:IntKind.i64.wrap 0=0:=by decide
           have Hg:ln=0:=by omega
           subst Hg;simp[Hd,Array.range_zero',execOp,Instr.makeSlice,zO (P:=P) hu,H8,H9,asInt,asIntOf,typeInfo,hi,H6,H7,g1,g2,g3,g4,g5,zY (P:=P) hz,newRow]
         . have He:¬cp=0:=by omega
           have H5:¬cp*(z+1)=0:=by omega
           simp[H5,execOp,Instr.makeSlice,zO (P:=P) hu,H8,H9,asInt,asIntOf,typeInfo,hi,H6,H7,g1,g2,g3,g4,g5,zY (P:=P) hz,newRow,He,h0]
       . simp[V2.den,V1.den,At.den,upd,c1]
       . have Hf:i<ln*(z+1):=by
          rcases Nat.lt_or_ge i (repeatL (zv.cells.toList.map At.lit) ln).length with h'|h'
          . rw[repeatL_length]at h';simpa[c4]using h'
          . simp[List.getElem?_eq_none h']at hx
         have Hk:ln*(z+1)<=cp*(z+1):=Nat.mul_le_mul_right _ c1;have hm:i%zv.cells.size<zv.cells.size:=Nat.mod_lt _ (by omega);rw[y1W _ _ _ (by simpa[c4]using Hf)]at hx;simp[hm]at hx;subst hx;refine⟨_,rfl,?_⟩;have:i<cp*(z+1):=by omega
         simp[this,hm]
     . cases h
   . cases h
 . cases h
end
variable [Sym]
open Go.RowKit
section
variable {P:Program} {X:Xt} [XOk P X] {W0:World} {B:Nat} {ρ:Rho} {s:St} {w:World} {a:Act} {ev:Operand->V2}
 {dst:Option Tmp} {type:TypeId} {pos:String} {after:Array Edge} {guard:Option (Nat×Bool)} {out:Out}
theorem yCx(w:World)(c:Array Value)(e:TypeId)(n:Nat):(w.alloc (.cells c e)).freeze ⟨w.heap.size,n,none⟩ 1=w.alloc (.cells c e (n,n+1)):=by
 unfold World.freeze;rw[if_neg (by omega)];unfold World.alloc
 congr 1
 apply Array.ext_getElem?;intro i;simp only[Array.getElem?_modify,Array.getElem?_push];by_cases hi:w.heap.size=i
 . subst hi;simp
 . simp only[if_neg hi,if_neg (Ne.symm hi)]
theorem yBK(hC:Conc W0 B ρ s w){t u e:Nat}{x:Operand}(H5:(ev x).den ρ=some (a.eval x))(hd:X.under u=some .string)(hu:X.under t=some (.slice e))
 (h:y76 X e (ev x) s=some out):OpSt P ρ s w a ⟨dst,.convert t u x,type,pos,after,guard⟩ out:=by
 unfold y76 at h;split at h
 . rename_i n k size len ex
   rw[ex]at H5;obtain⟨m,hn,he⟩:=y19 H5;split at h
   . rename_i e' k' cs H7 hf
     split at h
     . rename_i r hs hr
       split at h
       . rename_i bs hb
         cases h;have H6:size=1:=by simpa using hs
         subst H6;obtain⟨vs,a1,a2,a3⟩:=hC.range hn hf hr;obtain⟨ns,rfl,rfl⟩:=y1f hb a1;have hl:=run_loadCells_list (P:=P) w ⟨m.blk,m.sh+k,none⟩ _ a3;rw[a2]at hl;have hb:=run_bytesToString w ⟨m.blk,m.sh+k,none⟩ len (m.cap-k) ns hl;rw[y3i]at hb;refine OpSt.same (val:=.string ⟨(ns.map fun n=>UInt8.ofNat n.toNat).toArray⟩) ?_ rfl;simp only[Nat.mul_one]at he;simp[execOp,convert,zO (P:=P) hu,zO (P:=P) hd,zO (P:=P) H7,he,hb]
       . cases h
     . cases h
   . cases h
 . cases h
theorem yHh(w:World)(c:Array Value)(e:TypeId):(markStringish ⟨w.heap.size,0,none⟩).run P (w.alloc (.cells c e))=.ok () ((w.alloc (.cells c e)).freeze ⟨w.heap.size,c.size,none⟩ 1):=by
 have H5:(w.alloc (.cells c e)).shape? w.heap.size=some (e,c.size):=by
  have:=heap_alloc_new w (.cells c e);unfold World.shape?;rw[this]
 simp only[markStringish,Sem.run_bind,run_shape,H5,Result.andThen_ok];rfl
def textCells(b:ByteArray)(cap:Nat):Array Value:=b.data.map (fun c=>Value.int .u8 c.toNat)++Array.replicate (cap-b.size) (Value.int .u8 0)
theorem yJT(hC:Conc W0 B ρ s w){t u e:Nat}{x:Operand}(H6:(ev x).den ρ=some (a.eval x))(hd:X.under u=some (.slice e))(hu:X.under t=some .string)
 (h:y70 X e (ev x) s=some out):OpOk P W0 B ρ s w a ⟨dst,.convert t u x,type,pos,after,guard⟩ out:=by
 unfold y70 at h;split at h
 . rename_i b ex
   rw[ex]at H6;have he:=zX H6;split at h
   . rename_i H9 hb
     cases h;have H8:=grownCap_ge w b.size 0 e;have H5:(Conv.stringToBytes e b).run P w=.ok (.slice (some ⟨w.heap.size,0,none⟩) b.size (grownCap w b.size 0 e))
      (w.drew.alloc (.cells (textCells b (grownCap w b.size 0 e)) e ((textCells b (grownCap w b.size 0 e)).size,(textCells b (grownCap w b.size 0 e)).size+1))):=by
      rw[<-yCx];have hm:=yHh (P:=P) w.drew (textCells b (grownCap w b.size 0 e)) e;simp only[textCells,grownCap]at hm ⊢;simp[Conv.stringToBytes,Question.forced,newRow]at hm ⊢;simp[hm]
     refine⟨_,.slice (some ⟨w.heap.size,0,none⟩) b.size (grownCap w b.size 0 e),_,upd ρ s.next ⟨w.drew.heap.size,0,grownCap w b.size 0 e⟩,?_,.inl rfl,?_,hC.drew.new (.cells (textCells b (grownCap w b.size 0 e)) e ((textCells b (grownCap w b.size 0 e)).size,(textCells b (grownCap w b.size 0 e)).size+1)) (.cells e 1 (b.data.toList.map fun x=>.lit (.int .u8 x.toNat))) (grownCap w b.size 0 e) (fun _ _ h=>h) fun ρ' Ha=>⟨_,_,heap_alloc_new w.drew _,fun i hi hh=>?_,?_,fun h0=>?_,fun i x hi=>?_⟩⟩
     . simp[execOp,convert,zO (P:=P) hu,zO (P:=P) hd,zO (P:=P) H9,he,H5]
     . simp[V2.den,V1.den,At.den,upd,H8]
     . omega
     . simp[textCells];omega
     . omega
     . simp only[List.getElem?_map,Option.map_eq_some_iff]at hi
       obtain⟨c,hc,rfl⟩:=hi;refine⟨_,rfl,?_⟩;have H7:=lt_of_some (c:=b.data) (i:=i) (v:=c) (by simpa using hc);show(textCells b (grownCap w b.size 0 e))[0+i]?=_;rw[textCells,Nat.zero_add,Array.getElem?_append_left (by simpa using H7)];simp at hc;simp[hc]
   . cases h
 . cases h
theorem yCr{e:TypeId}{z:Nat}(hc:P.cellsOf e=z+1):liesAt P P.depth e 1 0 e 1=true:=by
 have hd:P.depth=(2*(P.types.size+Made.depth)+1)+1:=rfl;rw[hd];simp only[liesAt,Bool.or_eq_true];left
 rw[hd];simp[rowAt,hc,sameLayout]
theorem yDE{e z:Nat}(hz:zt X e=some z):P.cellsOf e=z:=by
 unfold zt at hz;split at hz
 . rename_i i hi;simp[Program.cellsOf,y1c (P:=P) hi];simpa using hz
 . cases hz
theorem y6F{e z:Nat}(hz:zt X e=some z):∃i,P.info? e=some i/\i.size=z:=by
 unfold zt at hz;split at hz
 . rename_i i hi;exact⟨i,y1c (P:=P) hi,by simpa using hz⟩
 . cases hz
theorem yEr(hC:Conc W0 B ρ s w){t u e:Nat}{x:Operand}(H6:(ev x).den ρ=some (a.eval x))(hd:X.under u=some .unsafePointer)(hu:X.under t=some (.pointer e))
 (h:y9V X e (ev x) s=some out):OpSt P ρ s w a ⟨dst,.convert t u x,type,pos,after,guard⟩ out:=by
 unfold y9V at h;split at h
 . rename_i n off ex
   rw[ex]at H6;obtain⟨m,hn,he⟩:=zy H6;split at h
   . rename_i e' k cs z hf hz
     split at h
     . rename_i H7
       cases h;obtain⟨i,hi,hs⟩:=y6F (P:=P) hz;obtain⟨_,_,c,fr,g1,g2,g3,g0,g4⟩:=hC.holds n _ hf m hn;have H5:off<cs.length:=by simpa[Nat.blt,Nat.succ_le_iff]using H7
       obtain⟨v,_,b2⟩:=g4 off _ (List.getElem?_eq_getElem H5);have H8:=lt_of_some b2;have:=Go.Lib.run_to_unsafe (P:=P) w (src:=t) (dst:=u) (t:=e) (e:=e') (j:=i) (cells:=c.size) ⟨m.blk,m.sh+off,none⟩ (y08 hu) (y08 hd) hi (by omega) (by simp[World.shape?,g1]) H8;exact OpSt.same (val:=.pointer (some ⟨m.blk,m.sh+off,none⟩)) (by simp[execOp,he,this]) (by simp[V2.den,V1.den,At.den,hn])
     . cases h
   . cases h
 . cases h
theorem ok_to(hC:Conc W0 B ρ s w){t u e:Nat}{x:Operand}(H7:(ev x).den ρ=some (a.eval x))(hd:X.under u=some (.pointer e))(hu:X.under t=some .unsafePointer)
 (h:yIz X e (ev x) s=some out):OpSt P ρ s w a ⟨dst,.convert t u x,type,pos,after,guard⟩ out:=by
 unfold yIz at h;split at h
 . rename_i n off ex
   rw[ex]at H7;obtain⟨m,hn,he⟩:=zy H7;split at h
   . rename_i e' cs hf
     split at h
     . rename_i z hc hz
       split at h
       . rename_i hl
         cases h;simp only[Bool.and_eq_true,beq_iff_eq]at hc hl;obtain⟨rfl,rfl⟩:=hc;obtain⟨i,hi,hs⟩:=y6F (P:=P) hz;have H8:=yDE (P:=P) hz;obtain⟨_,_,c,fr,g1,g2,g3,g0,g4⟩:=hC.holds n _ hf m hn;obtain⟨g5,g6⟩:=g0 rfl;have H6:=yCr (P:=P) H8;have H5:c.size/P.cellsOf e'=1:=by rw[H8,g6,hl];exact Nat.div_self (Nat.succ_pos z)
         have:=Go.Lib.run_from_unsafe (P:=P) w (src:=t) (dst:=u) (u:=e') (e:=e') (j:=i) (cells:=c.size) ⟨m.blk,0,none⟩ (y08 hu) (y08 hd) hi (by simp[World.shape?,g1]) (by rw[H5];exact H6);rw[g5]at he;exact OpSt.same (val:=.pointer (some ⟨m.blk,0,none⟩)) (by simp only[execOp];simp only[Nat.add_zero]at he;simp[he,this]) (by simp[V2.den,V1.den,At.den,hn,g5])
       . cases h
     . cases h
   . cases h
 . cases h
theorem yCe(hC:Conc W0 B ρ s w){t u:Nat}{x:Operand}(H5:(ev x).den ρ=some (a.eval x))
 (h:y3S X t u (ev x) s=some out):OpOk P W0 B ρ s w a ⟨dst,.convert t u x,type,pos,after,guard⟩ out:=by
 unfold y3S at h;split at h
 . rename_i k hd
   split at h
   . rename_i k' n e
     rw[e]at H5;have he:=zX H5;split at h
     . rename_i d hu
       unfold okO at h;split at h
       . rename_i v hv
         cases h;obtain⟨h1,rfl⟩:=y23 hv;refine OpOk.same hC (val:=.int k n) ?_ rfl;have H6:a.eval x=.int k' ((n:Nat):Int):=he;have hw:=wrapN h1;have:(convert t u (.int k' ((n:Nat):Int))).run P w=.ok (.int k n) w:=by
          simp only[convert,Sem.run_bind,zO (P:=P) hu,zO (P:=P) hd,Result.andThen_ok];cases d<;>simp[Conv.intToInt,hw]
         simp[execOp,H6,this]
       . cases h
     . cases h
   . cases h
 . rename_i hd
   split at h
   . rename_i e hu;exact(yBK hC H5 hd hu h).ok hC
   . cases h
 . rename_i e hd
   split at h
   . rename_i hu;exact yJT hC H5 hd hu h
   . cases h
 . rename_i hd
   split at h
   . rename_i e hu;exact(yEr hC H5 hd hu h).ok hC
   . cases h
 . rename_i e hd
   split at h
   . rename_i hu;exact(ok_to hC H5 hd hu h).ok hC
   . cases h
 . cases h
theorem yHa(hC:Conc W0 B ρ s w){t:Nat}{x:Operand}(H5:(ev x).den ρ=some (a.eval x))
 (h:y4M X t (ev x) s=some out):OpOk P W0 B ρ s w a ⟨dst,.range t x,type,pos,after,guard⟩ out:=by
 unfold y4M at h;split at h
 . rename_i b hu e
   cases h;rw[e]at H5;have hx:=zX H5;refine⟨_,.pointer (some ⟨w.heap.size,0,none⟩),_,upd ρ s.next ⟨w.heap.size,0,0⟩,?_,.inl rfl,?_,hC.new (.stringIter b 0) (.iter b 0) 0 (fun _ _ h=>h) fun ρ' _=>⟨heap_alloc_new w _,rfl⟩⟩
   . simp[execOp,Instr.range,zO (P:=P) hu,hx]
   . simp[allocS,V2.den,V1.den,At.den,upd]
 . cases h
theorem yJU(hC:Conc W0 B ρ s w){x:Operand}(H8:(ev x).den ρ=some (a.eval x))
 (h:y72 (ev x) s=some out):OpOk P W0 B ρ s w a ⟨dst,.next x true,type,pos,after,guard⟩ out:=by
 unfold y72 at h;split at h
 . rename_i n e
   rw[e]at H8;obtain⟨m,hn,he⟩:=zy H8;split at h
   . rename_i b p hf
     obtain⟨c1,c2,hh,H7⟩:=hC.holds n _ hf m hn;rw[H7]at he;split at h
     . rename_i hp
       rw[Nat.ble_eq]at hp;have H6:p<b.size:=by omega
       obtain⟨ch,wd,H5⟩:∃ch wd,Utf8.decode b p=(ch,wd):=⟨_,_,rfl⟩;rw[H5]at h;cases h;refine⟨_,.tuple #[.bool true,goInt p,.int .i32 ch],{ w with heap:=w.heap.setIfInBounds m.blk (.stringIter b (p+wd)) },ρ,?_,.inl rfl,?_,fun _ _=>rfl,Nat.le_refl _,?_⟩
       . simp[execOp,Instr.next,he,getObj,setObj,Sem.run,hh,H6,H5]
       . simp[V2.den,dens1,V1.den,At.den]
       . refine hC.turn hn hf ⟨rfl,rfl,rfl,by simp⟩ (fun k hk=>by simp[Array.getElem?_setIfInBounds_ne (Ne.symm hk)]) ⟨?_,H7⟩
         simp[c2]
     . rename_i hp
       cases h;have H6:¬p<b.size:=by
        intro H9;have:Nat.ble (p+1) b.size=true:=by rw[Nat.ble_eq];exact H9
        rw[this]at hp;cases hp
       refine OpOk.same hC (val:=.tuple #[.bool false]) ?_ rfl;simp[execOp,Instr.next,he,getObj,Sem.run,hh,H6]
   . cases h
 . cases h
end
variable [Sym]
open Go.RowKit
section
variable {P:Program} {X:Xt} [XOk P X] {W0:World} {B:Nat} {ρ:Rho} {s:St} {w:World} {a:Act} {ev:Operand->V2}
 {dst:Option Tmp} {type:TypeId} {pos:String} {after:Array Edge} {guard:Option (Nat×Bool)} {out:Out}
theorem yIZ(hC:Conc W0 B ρ s w){op:UnOp}{t:TypeId}{x:Operand}(H5:(ev x).den ρ=some (a.eval x))
 (h:yAu op (ev x) s=some out):OpSt P ρ s w a ⟨dst,.unOp op t x,type,pos,after,guard⟩ out:=by
 unfold yAu at h;split at h
 . rename_i e;rw[e]at H5;have he:=zX H5;cases h
   exact OpSt.same (val:=.bool false) (by simp[execOp,he,Op.unary]) rfl
 . rename_i e;rw[e]at H5;have he:=zX H5;cases h
   exact OpSt.same (val:=.bool true) (by simp[execOp,he,Op.unary]) rfl
 . cases h
theorem yAd{x:V2}{xs:List V2}{l:List (Nat×Nat)}(h:y49 (x::xs)=some l):∃n o r,x=.o (.a (.ptr n o))/\y49 xs=some r/\l=(n,o)::r:=by
 cases x with
 | t vs=>cases h
 | o y=>
  cases y with
  | g cs=>cases h
  | a z=>
   cases z with
   | ptr n o=>
    simp only[y49]at h;split at h
    . rename_i r hr;cases h;exact⟨n,o,r,rfl,hr,rfl⟩
    . cases h
   | _=>cases h
theorem y3o:∀ {xs:List Operand}{l:List (Nat×Nat)},(∀x∈xs,(ev x).den ρ=some (a.eval x))->y49 (xs.map ev)=some l->ptrsDen ρ l=some (xs.map a.eval)
 | [],l,_,h=>by simp[y49]at h;subst h;rfl
 | x::xs,l,hx,h=>by
  have h0:=hx x (by simp);rw[List.map_cons]at h;obtain⟨n,o,r,h1,h2,rfl⟩:=yAd h;rw[h1]at h0;obtain⟨m,hn,he⟩:=zy h0;have ih:=y3o (fun y hy=>hx y (by simp[hy])) h2;simp only[ptrsDen,y6M,hn,ih,Option.map_some,List.map_cons,he]
theorem yJV(hC:Conc W0 B ρ s w){f:Nat}{fs cs:Array Operand}(hf:∀x∈fs,(ev x).den ρ=some (a.eval x))(hc:∀x∈cs,(ev x).den ρ=some (a.eval x))
 (h:y75 ev f fs cs s=some out):OpSt P ρ s w a ⟨dst,.makeFunc (.func f) fs cs,type,pos,after,guard⟩ out:=by
 unfold y75 at h;split at h
 . rename_i l r h1 h2
   split at h
   . cases h
   . cases h
     have d1:=y3o (ρ:=ρ) (a:=a) (fun x hx=>hf x (by simpa using hx)) h1;have d2:=y3o (ρ:=ρ) (a:=a) (fun x hx=>hc x (by simpa using hx)) h2;refine OpSt.same (val:=.func (.func f) (fs.map a.eval) (cs.map a.eval)) (by simp[execOp,Instr.makeFunc]) ?_;simp only[V2.den,V1.den,At.den,d1,d2]
     congr 2<;>(apply Array.ext';simp)
 . cases h
theorem yCc(hC:Conc W0 B ρ s w){t:Nat}:OpOk P W0 B ρ s w a ⟨dst,.makeMap t none,type,pos,after,guard⟩ (.val (.o (.a (.mp s.next))) { heap:=(s.next,.map [] 0)::s.heap,next:=s.next+1 }):=by
 refine⟨_,.map (some w.heap.size),_,upd ρ s.next ⟨w.heap.size,0,0⟩,?_,.inl rfl,?_,hC.new (.map #[] 0) (.map [] 0) 0 (fun _ _ h=>h) fun ρ' _=>heap_alloc_new w _⟩
 . simp[execOp,Instr.makeMap]
 . simp[V2.den,V1.den,At.den,upd]
theorem y6O{α:Type}{x:Sem α}{r:α}(h:pr P (fun _=>none) x=some r)(w:World):x.run P w=.ok r w:=y8U (fun a v h=>by cases h) x r h
theorem yEp(hC:Conc W0 B ρ s w){t:Nat}{x k:Operand}{both:Bool}(H6:(ev x).den ρ=some (a.eval x))(H7:(ev k).den ρ=some (a.eval k))
 (h:y34 P X t (ev x) (ev k) both s=some out):OpSt P ρ s w a ⟨dst,.lookup t x k both,type,pos,after,guard⟩ out:=by
 unfold y34 at h;split at h
 . rename_i kt el n key hu e hk
   rw[e]at H6;obtain⟨m,hn,he⟩:=yGA H6;have H5:a.eval k=key:=by have:=V2.den_val (ρ:=ρ) hk;rw[H7]at this;cases this;rfl
   split at h
   . rename_i es clock hf
     obtain⟨_,_,g⟩:=hC.holds n _ hf m hn;have g:w.heap[m.blk]?=some (.map es.toArray clock):=g;have hg:(getObj m.blk).run P w=.ok (.map es.toArray clock) w:=by simp[getObj,Sem.run,g]
     have keyS:∀(i:Nat) (v:Value),(Instr.checkKey es.toArray.isEmpty 10000 kt key).run P w=.ok () w->(Instr.findKey kt key es).run P w=.ok (some (i,v)) w ->
      (execOp a.eval ⟨dst,.lookup t x k both,type,pos,after,guard⟩).run P w=.ok (.value (if both then .tuple #[v,.bool true]else v)) w:=by
      intro i v r1 r2;have:(Instr.lookup t (.map (some m.blk)) key both).run P w=.ok (if both then .tuple #[v,.bool true]else v) w:=by
       simp only[Instr.lookup,Sem.run_bind,zO (P:=P) hu,Result.andThen_ok,hg,Sem.run_pure,r1,r2]
      simp only[execOp,he,H5,Sem.run_bind,this,Result.andThen_ok,Sem.run_pure]
     have keyN:∀(v:Value),(Instr.checkKey es.toArray.isEmpty 10000 kt key).run P w=.ok () w->(Instr.findKey kt key es).run P w=.ok none w->(zeroValue el).run P w=.ok v w ->
      (execOp a.eval ⟨dst,.lookup t x k both,type,pos,after,guard⟩).run P w=.ok (.value (if both then .tuple #[v,.bool false]else v)) w:=by
      intro v r1 r2 r3;have:(Instr.lookup t (.map (some m.blk)) key both).run P w=.ok (if both then .tuple #[v,.bool false]else v) w:=by
       simp only[Instr.lookup,Sem.run_bind,zO (P:=P) hu,Result.andThen_ok,hg,Sem.run_pure,r1,r2,r3]
      simp only[execOp,he,H5,Sem.run_bind,this,Result.andThen_ok,Sem.run_pure]
     split at h
     . rename_i i v h1 h2
       have:=keyS i v (y6O h1 w) (y6O h2 w);cases both<;>cases h
       . exact OpSt.same this (V1.den_of ρ v)
       . refine OpSt.same this ?_
         simp only[V2.den,dens1,V1.den_of];rfl
     . rename_i h1 h2
       split at h
       . rename_i i hi
         split at h
         . rename_i v hv
           have:=keyN v (y6O h1 w) (y6O h2 w) (by simp[zeroValue,typeInfo,y1c (P:=P) hi,hv]);cases both<;>cases h
           . exact OpSt.same this (V1.den_of ρ v)
           . refine OpSt.same this ?_
             simp only[V2.den,dens1,V1.den_of];rfl
         . cases h
       . cases h
     . cases h
   . cases h
 . cases h
theorem yEl(hC:Conc W0 B ρ s w){t:Nat}{x k y:Operand}(H7:(ev x).den ρ=some (a.eval x))(H9:(ev k).den ρ=some (a.eval k))(H8:(ev y).den ρ=some (a.eval y))
 (h:y33 P X t (ev x) (ev k) (ev y) s=some out):OpOk P W0 B ρ s w a ⟨dst,.mapUpdate t x k y,type,pos,after,guard⟩ out:=by
 unfold y33 at h;split at h
 . rename_i kt el n key val hu e hk hy
   rw[e]at H7;obtain⟨m,hn,he⟩:=yGA H7;have H6:a.eval k=key:=by have:=V2.den_val (ρ:=ρ) hk;rw[H9]at this;cases this;rfl
   have H5:a.eval y=val:=by have:=V2.den_val (ρ:=ρ) hy;rw[H8]at this;cases this;rfl
   split at h
   . rename_i es clock hf
     obtain⟨_,c2,g⟩:=hC.holds n _ hf m hn;have g:w.heap[m.blk]?=some (.map es.toArray clock):=g;split at h
     . rename_i h1 h2
       cases h;have r1:=y6O h1 w;have r2:=y6O h2 w;have hg:(getObj m.blk).run P w=.ok (.map es.toArray clock) w:=by simp[getObj,Sem.run,g]
       refine⟨_,undef,{ w with heap:=w.heap.setIfInBounds m.blk (.map (es ++ [(⟨key,val,clock⟩:MapEntry)]).toArray (clock+1)) },ρ,?_,.inr ⟨rfl,rfl⟩,V2.den_undef ρ,fun _ _=>rfl,Nat.le_refl _,?_⟩
       . have:(Instr.mapUpdate t (.map (some m.blk)) key val).run P w=.ok () { w with heap:=w.heap.setIfInBounds m.blk (.map (es ++ [(⟨key,val,clock⟩:MapEntry)]).toArray (clock+1)) }:=by
          simp only[Instr.mapUpdate,Sem.run_bind,zO (P:=P) hu,Result.andThen_ok,hg,Sem.run_pure,r1,r2];simp[setObj,Sem.run,g]
         simp only[execOp,he,H6,H5,Sem.run_bind,this,Result.andThen_ok,Sem.run_pure]
       . refine hC.turn hn hf ⟨rfl,rfl,rfl,by simp⟩ (fun k hk=>by simp[Array.getElem?_setIfInBounds_ne (Ne.symm hk)]) ?_
         show _=_;simp[c2]
     . cases h
   . cases h
 . cases h
theorem yHW(hC:Conc W0 B ρ s w){o:Oper}(H5:∀x∈o.op.operands,(ev x).den ρ=some (a.eval x))(h:yCa P X ev o s=some out):OpOk P W0 B ρ s w a o out:=by
 obtain⟨dst,op,type,pos,after,guard⟩:=o;rw[yBG]at h;unfold yBH at h;cases op<;>simp only[Op.operands]at H5<;>simp only at h
 case move=>exact(yEo hC (H5 _ (by simp)) h).ok hC
 case assign=>exact(y8d hC (H5 _ (by simp)) h).ok hC
 case pick=>exact(yEn hC (H5 _ (by simp)) (H5 _ (by simp)) (H5 _ (by simp)) h).ok hC
 case alloc=>exact yHb hC h
 case box=>exact ok_box hC (H5 _ (by simp)) h
 case build=>exact(yBL hC H5 h).ok hC
 case buildSlice=>exact y7R hC H5 h
 case load=>exact(yEq hC (H5 _ (by simp)) h).ok hC
 case store=>exact yHZ hC (H5 _ (by simp)) (H5 _ (by simp)) h
 case nilCheck=>exact(y5I hC (H5 _ (by simp)) h).ok hC
 case binOp=>exact(yBM hC (H5 _ (by simp)) (H5 _ (by simp)) h).ok hC
 case unOp=>exact(yIZ hC (H5 _ (by simp)) h).ok hC
 case convert=>exact yCe hC (H5 _ (by simp)) h
 case slice=>exact(ok_slice hC (H5 _ (by simp)) (fun y hy=>H5 y (by simp[hy])) (fun y hy=>H5 y (by simp[hy])) (fun y hy=>H5 y (by simp[hy])) h).ok hC
 case fieldAddr=>exact(y40 hC (H5 _ (by simp)) h).ok hC
 case field=>exact(yBJ hC (H5 _ (by simp)) h).ok hC
 case indexAddr=>exact(y3z hC (H5 _ (by simp)) (H5 _ (by simp)) h).ok hC
 case index=>exact(yBI hC (H5 _ (by simp)) (H5 _ (by simp)) h).ok hC
 case extract=>exact(y6Q hC (H5 _ (by simp)) h).ok hC
 case call=>exact yJY hC H5 h
 case makeSlice=>exact y8c hC (H5 _ (by simp)) (H5 _ (by simp)) h
 case lookup=>exact(yEp hC (H5 _ (by simp)) (H5 _ (by simp)) h).ok hC
 case mapUpdate=>exact yEl hC (H5 _ (by simp)) (H5 _ (by simp)) (H5 _ (by simp)) h
 case range=>exact yHa hC (H5 _ (by simp)) h
 case next x b=>
  cases b with
  | true=>exact yJU hC (H5 _ (by simp)) h
  | false=>cases h
 case makeFunc f fs cs=>
  cases f with
  | func f=>exact(yJV hC (fun x hx=>H5 x (by simp[hx])) (fun x hx=>H5 x (by simp[hx])) h).ok hC
  | _=>cases h
 case makeMap t r=>
  cases r with
  | none=>cases h;exact yCc hC
  | some v=>cases h
 all_goals cases h
theorem y2y:∀ {xs:List Operand},y6i ev xs=true->∀x∈xs,∃v,(ev x).val?=some v
 | [],_,x,hx=>by cases hx
 | y::xs,h,x,hx=>by
  simp only[y6i]at h;split at h
  . rename_i v hv
    cases hx with
    | head=>exact⟨v,hv⟩
    | tail _ hx=>exact y2y h x hx
  . cases h
theorem yHY{G:Addr->Option Value}(hC:Conc W0 B ρ s w)(hG:∀a v,G a=some v->w.cell? a=some v){o:Oper}(H5:∀cs b,o.op≠.select cs b)(H6:∀x∈o.op.operands,(ev x).den ρ=some (a.eval x))
 (hl:y6i ev o.op.operands.toList=true) (h:yJQ P X G ev o s=some out):OpOk P W0 B ρ s w a o out:=by
 have hx:execOp a.eval o=execOp (fun x=>match(ev x).val? with|some v=>v|none=>.tuple #[]) o:=by
  refine execOp_congr o H5 fun x hx=>?_
  obtain⟨v,hv⟩:=y2y hl x (by simpa using hx);have h1:=H6 x hx;rw[V2.den_val hv]at h1;simp only[hv];simpa using h1.symm
 unfold yJQ at h;split at h
 . rename_i v hp
   cases h;exact OpOk.same hC (val:=v) (by rw[hx];exact y8U hG _ _ hp) (V2.den_of ρ v)
 . rename_i hp
   cases h;exact⟨_,undef,w,ρ,by rw[hx];exact y8U hG _ _ hp,.inr ⟨rfl,rfl⟩,V2.den_undef ρ,Step.refl hC⟩
 . rename_i f args hp
   cases h;refine⟨rfl,args.toList,?_,y4h ρ _⟩;rw[hx];exact y8U hG _ _ hp
 . cases h
theorem y7P{G:Addr->Option Value}(hC:Conc W0 B ρ s w)(hG:∀a v,G a=some v->w.cell? a=some v){o:Oper}(H5:∀x∈o.op.operands,(ev x).den ρ=some (a.eval x))
 (h:opEv P X G ev o s=some out):OpOk P W0 B ρ s w a o out:=by
 unfold opEv at h;split at h
 . rename_i r hr;cases h;exact yHW hC H5 hr
 . split at h
   . rename_i hs hl;exact yHY hC hG (fun cs b e=>by rw[e]at hs;cases hs) H5 hl h
   . unfold yIY at h
     split at h
     . rename_i r hr
       cases h;obtain⟨v,h1,h2⟩:=XOk.fact (P:=P) _ _ _ hr;exact OpOk.same hC (val:=v) (h2 o ev a.eval rfl rfl (fun x hx=>⟨ρ,H5 x hx⟩) w) (h1 ρ)
     . cases h
end
variable [Sym]
open Go.RowKit
theorem yH4{α β:Type}(i:I16)(r:R16 α)(v:α)(k:R16 α->β):R16.set i r v k=k (R16.set i r v id):=by cases i<;>cases r<;>rfl
theorem yBh{α:Type}(i:I16)(h:i≠.no)(d:α)(r:R16 α)(v:α):R16.get i d (R16.set i r v id)=v:=by cases i<;>first|rfl|exact absurd rfl h
theorem yIf{α:Type}(i j:I16)(h:i≠j)(d:α)(r:R16 α)(v:α):R16.get j d (R16.set i r v id)=R16.get j d r:=by cases i<;>cases j<;>first|rfl|exact absurd rfl h
def I16.num:I16->Nat
 | .i0=>0 | .i1=>1 | .i2=>2 | .i3=>3 | .i4=>4 | .i5=>5 | .i6=>6 | .i7=>7 | .i8=>8 | .i9=>9 | .i10=>10 | .i11=>11 | .i12=>12 | .i13=>13 | .i14=>14 | .i15=>15 | .no=>16
theorem yDi:∀n,n<16->(toI n).num=n:=by decide
theorem toI_no(n:Nat)(h:16<=n):toI n=.no:=by unfold toI;split<;>first|omega|rfl
theorem yFG(t:Nat):(lo t).num=t%16:=yDi _ (Nat.mod_lt _ (by omega))
theorem yFY{t:Nat}(h:t<256):(hi t).num=t/16:=yDi _ (by omega)
theorem hi_no{t:Nat}(h:256<=t):hi t=.no:=toI_no _ (by omega)
theorem yI4(i:I16):R16.get i undefV row0=undefV:=by cases i<;>rfl
theorem yIX{β:Type}(tr:R16 (R16 V2))(d:Nat)(v:V2)(k:R16 (R16 V2)->β):putR tr d v k=k (putR tr d v id):=by
 unfold putR;rw[yH4,yH4 (hi d)];rw[yH4 (lo d) _ _ (fun r=>R16.set (hi d) tr r id)]
theorem y8g(tr:R16 (R16 V2)){d:Nat}(v:V2)(hd:d<256)(t:Nat):y61 (putR tr d v id) t=if t=d then v else y61 tr t:=by
 have hp:putR tr d v id=R16.set (hi d) tr (R16.set (lo d) (R16.get (hi d) row0 tr) v id) id:=by
  unfold putR;rw[yH4 (lo d)]
 have H5:hi d≠.no:=fun e=>by
  have:=yFY hd;rw[e]at this;simp only[I16.num]at this;omega
 have lno:lo d≠.no:=fun e=>by
  have:=yFG d;rw[e]at this;simp only[I16.num]at this;omega
 rw[hp];unfold y61;by_cases h1:hi d=hi t
 . rw[<-h1,yBh _ H5]
   by_cases h2:lo d=lo t
   . have e1:=yFG t
     have e2:=yFG d;rw[h2]at e2;have H6:t=d:=by
      rcases Nat.lt_or_ge t 256 with h3|h3
      . have e3:=yFY h3
        have e4:=yFY hd;rw[h1]at e4;omega
      . rw[hi_no h3]at h1;exact absurd h1 H5
     subst H6;rw[yBh _ lno,if_pos rfl]
   . rw[yIf _ _ h2,if_neg (fun e=>h2 (by rw[e]))]
 . rw[yIf _ _ h1,if_neg (fun e=>h1 (by rw[e]))]
structure EnvOk (ρ:Rho) (e:Env) (a:Act):Prop where
 size:a.tmps.size=e.size
 small:e.size<=256
 defers:a.defers = []
 slot:∀t,(e.look t).den ρ=some (a.tmps.getD t undef)
section
variable {P:Program} {X:Xt} [XOk P X] {W0:World} {B:Nat} {ρ ρ':Rho} {s s':St} {w:World} {a:Act} {e e':Env}
theorem EnvOk.ext(h:EnvOk ρ e a)(hx:Ext ρ ρ'):EnvOk ρ' e a:=⟨h.size,h.small,h.defers,fun t=>V2.den_ext hx (h.slot t)⟩
theorem EnvOk.ev(h:EnvOk ρ e a)(x:Operand):(e.ev x).den ρ=some (a.eval x):=by
 cases x with
 | tmp t=>exact h.slot t
 | const v=>exact V2.den_of ρ v
 | global g=>rfl
 | func f=>rfl
theorem Env.put_eq{d:Nat}{v:V2}(h:e.put (some d) v=some e'):d<e.size/\e'=⟨e.size,putR e.tr d v id⟩:=by
 obtain⟨n,tr⟩:=e;simp only[Env.put]at h;split at h
 . rename_i hc
   rw[yIX]at h;cases h;exact⟨by simpa[Nat.blt,Nat.succ_le_iff]using hc,rfl⟩
 . cases h
theorem Env.look_put{d:Nat}{v:V2}(hs:e.size<=256)(h:e.put (some d) v=some e')(t:Nat):e'.look t=if t=d then v else e.look t:=by
 obtain⟨h1,rfl⟩:=Env.put_eq h;exact y8g _ _ (by omega) t
theorem EnvOk.put(h:EnvOk ρ e a){d:Option Nat}{v:V2}{val:Value}(hv:v.den ρ=some val)(hp:e.put d v=some e'):EnvOk ρ e' (a.put d val):=by
 cases d with
 | none=>simp[Env.put]at hp;subst hp;exact h
 | some d=>
  have hl:=fun t=>Env.look_put h.small hp t
  obtain⟨h1,rfl⟩:=Env.put_eq hp;refine⟨by simp[Act.put,h.size],h.small,h.defers,fun t=>?_⟩;rw[hl];by_cases e1:t=d
  . subst e1
    have:t<a.tmps.size:=by rw[h.size];exact h1
    simp[Act.put,hv,this]
  . rw[if_neg e1,h.slot t]
    simp[Act.put,Array.getElem?_setIfInBounds_ne (Ne.symm e1)]
theorem yBt{x:V2}{b:Bool}(h:x.den ρ=some (.bool b)):x=.o (.a (.lit (.bool b))):=by
 cases x with
 | t vs=>obtain⟨_,_,h⟩:=yG9 h;cases h
 | o x=>
  cases x with
  | g cs=>obtain⟨_,_,h⟩:=y7t h;cases h
  | a x=>
   cases x with
   | lit v=>rw[zX h]
   | ptr n off=>obtain⟨_,_,h⟩:=zy h;cases h
   | sli n k size len=>obtain⟨_,_,h⟩:=y19 h;cases h
   | sub n off len cap=>obtain⟨_,_,h⟩:=y2A h;cases h
   | emp n k l size z=>obtain⟨_,_,_,h⟩:=y2u h;cases h
   | mp n=>obtain⟨_,_,h⟩:=yGA h;cases h
   | clo f fs cs=>obtain⟨_,_,_,_,h⟩:=yGB h;cases h
   | sym i=>exact absurd (Option.some.inj (show some (Sym.v i)=some (.bool b) from h)) (Sym.nb i b)
theorem yFc(h:EnvOk ρ e a)(ops:Array Oper):y24 ops e=yielded ops a.tmps:=by
 funext j
 unfold y24 yielded;cases hd:(ops[j]?).bind (·.dst)with
 | none=>rfl
 | some d=>
  simp only[Option.bind_some];have hs:=h.slot d;cases ht:a.tmps[d]? with
  | none=>
   have:a.tmps.getD d undef=undef:=by simp[ht]
   rw[this]at hs;split
   . rename_i b hb;rw[hb]at hs;cases zX hs
   . rfl
  | some v=>
   have hg:a.tmps.getD d undef=v:=by simp[ht]
   rw[hg]at hs;split
   . rename_i b hb;rw[hb]at hs;rw[zX hs]
   . rename_i H5
     cases v<;>first|rfl|skip
     rename_i b;exact absurd (yBt hs) (H5 b)
def y4C(P:Program)(W0:World)(B:Nat)(call:CallF):Prop:=∀f args s v s',call f args s=some (v,s')->∀ρ w vals,Conc W0 B ρ s w->dens1 ρ args=some vals ->
 Calls P f vals.toArray w fun e w'=>∃val ρ',e=.returned val/\v.den ρ'=some val/\Step W0 B ρ s ρ' s' w'
def GOk(W0:World)(B:Nat)(G:Addr->Option Value):Prop:=∀a v,G a=some v->a.block<B/\W0.cell? a=some v
theorem GOk.cell{G:Addr->Option Value}(hG:GOk W0 B G)(hC:Conc W0 B ρ s w):∀a v,G a=some v->w.cell? a=some v:=fun a v h=>by
 obtain⟨h1,h2⟩:=hG a v h;unfold World.cell? at h2 ⊢;rw[hC.below.block a.block h1];exact h2
theorem y4g{G:Addr->Option Value}(hG:GOk W0 B G){call:CallF}(H5:y4C P W0 B call){ops:Array Oper}{Q:Exit->Act->World->Prop}:
 ∀(l:List Oper) (ρ:Rho) (s:St) (w:World) (a:Act) (e e':Env) (s':St),yFt P X G call ops l e s=some (e',s')->Conc W0 B ρ s w->EnvOk ρ e a ->
  (∀ρ' a' w',Step W0 B ρ s ρ' s' w'->EnvOk ρ' e' a'->Q .normal a' w')->wpList P ops Q l a w
 | [],ρ,s,w,a,e,e',s',h,hC,hE,hQ=>by
  simp only[yFs,Option.some.injEq,Prod.mk.injEq]at h;obtain⟨rfl,rfl⟩:=h;exact hQ ρ a w (Step.refl hC) hE
 | o::r,ρ,s,w,a,e,e',s',h,hC,hE,hQ=>by
  simp only[yD0,yDs]at h;simp only[wpList];rw[<-yFc hE ops];split at h
  . rename_i hw
    rw[if_neg (by simp[hw])];split at h
    . rename_i e1 H7
      exact y4g hG H5 r ρ s w _ e1 e' s' h hC (hE.put (V2.den_undef ρ) H7) hQ
    . cases h
  . rename_i hw
    rw[if_pos hw];refine .inl ?_;unfold Oper.wp;unfold yGe at h;split at h
    . rename_i v s1 H9
      obtain⟨nx,val,w1,ρ1,hr,Hc,hv,H6⟩:=y7P (a:=a) hC (hG.cell hC) (fun x _=>hE.ev x) H9;split at h
      . rename_i e1 H7
        have Ha:=(hE.ext (hC.ext H6.agree)).put hv H7;have ih:=y4g hG H5 r ρ1 s1 w1 _ e1 e' s' h H6.conc Ha (fun ρ' a' w' H8 Hb=>hQ ρ' a' w' (H6.trans H8) Hb);rw[hr];rcases Hc with rfl|⟨rfl,rfl⟩
        . exact ih
        . exact ih
      . cases h
    . rename_i f args s1 H9
      obtain⟨rfl,vals,hr,hd⟩:=y7P (a:=a) hC (hG.cell hC) (fun x _=>hE.ev x) H9;unfold y9M at h;split at h
      . rename_i v s2 hc
        split at h
        . rename_i e1 H7
          rw[hr];simp only[Oper.upon];refine Calls.mono (H5 f args s1 v s2 hc ρ w vals hC hd) fun en w' Hd=>?_
          obtain⟨val,ρ1,rfl,hv,H6⟩:=Hd;have Ha:=(hE.ext (hC.ext H6.agree)).put hv H7;exact y4g hG H5 r ρ1 s2 w' _ e1 e' s' h H6.conc Ha (fun ρ' a' w' H8 Hb=>hQ ρ' a' w' (H6.trans H8) Hb)
        . cases h
      . cases h
    . cases h
end
