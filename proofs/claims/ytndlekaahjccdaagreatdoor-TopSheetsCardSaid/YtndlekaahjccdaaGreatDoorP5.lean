/- P5 -/
import Derived.Maps.RangeWalk
import Derived.Test.YtndlekaahjccdaaGreatDoorP4
set_option linter.all false
set_option maxRecDepth 100000
set_option maxHeartbeats 40000000
set_option maxHeartbeats 4000000
noncomputable section
namespace Go.Proofs.YtndlekaahjccdaaGreatDoor
open Go.RowKit Go.Proofs.Tryz
def Row(w:World)(v:Value)(n:Nat)(cs:List Value):Prop:=
 ∃a cap,v=.slice a n cap/\∀(j:Nat) (x:Value),cs[j]?=some x->∃g o,a=some ⟨g,o,none⟩/\w.cell? ⟨g,o+j,none⟩=some x
theorem Row.keep{w w':World}{v:Value}{n:Nat}{cs:List Value}(h:Row w v n cs)(hb:Below w.heap.size w w'):Row w' v n cs:=by
 obtain⟨a,cap,hv,h⟩:=h;refine⟨a,cap,hv,fun j x hj=>?_⟩;obtain⟨g,o,ha,hc⟩:=h j x hj;exact⟨g,o,ha,kc hb hc⟩
theorem Row.nil(w:World):Row w (.slice none 0 0) 0 []:=⟨none,0,rfl,fun j x h=>by simp at h⟩
theorem y01{w:World}{B:Nat}{e:TypeId}{s:Nat}{v:Value}{n:Nat}{cs:List Value}(h:w.ownsRow B e s v n cs):Row w v n cs:=by
 have h':=h;rcases h.2 with⟨rfl,rfl⟩|⟨g,cap,cur,rfl,hg,hh,H6,H8,H7,H5⟩
 . have:cs = []:=List.eq_nil_of_length_eq_zero (by have:=h.1;simpa using this)
   subst this;exact Row.nil w
 . refine⟨some ⟨g,0,none⟩,cap,rfl,fun j x hj=>⟨g,0,rfl,?_⟩⟩
   have hl:j<n*s:=by have:=(List.getElem?_eq_some_iff.1 hj).1;have:=h.1;omega
   rw[Nat.zero_add,h'.cellAt j hl];exact hj
def icells(l:List Int):List Value:=l.map fun b=>Value.int .i32 b
theorem y3G(l m:List Int):icells (l++m)=icells l++icells m:=by simp[icells]
theorem y3F(l:List Int)(k:Nat)(p:Int)(h:l[k]?=some p):(icells l)[k]?=some (.int .i32 p):=by simp[icells,h]
theorem zM{α:Type}(l:List α)(k:Nat)(h:k<l.length):∃p,l[k]?=some p:=⟨l[k],by simp[h]⟩
def textM(l:List Int):List UInt8×Bool:=if l.all scalar then(l.flatMap encR,true)else([],false)
theorem y5x(p:Int)(h:scalar p=true):1<=Lib.runeLen p/\Lib.runeLen p<=4:=by
 unfold scalar at h;simp only[decide_eq_true_eq]at h;unfold Lib.runeLen
 repeat' split
 all_goals omega
theorem y8I(p:Int)(h:scalar p=true):0<=p/\p<=1114111:=by
 unfold scalar at h;simp only[decide_eq_true_eq]at h;omega
theorem drop_at{α:Type}(l:List α)(k:Nat)(h:k<l.length):l.drop k=l[k]::l.drop (k+1):=List.drop_eq_getElem_cons h
theorem y4J(v:Value)(l:List Int)(w:World)(Hd:Row w v l.length (icells l))(hl:l.length<=1073741824):
 Calls prog 206 #[v] w fun e w'=>e=.returned (.tuple #[.string ⟨(textM l).1.toArray⟩,.bool (textM l).2])/\Below w.heap.size w w':=by
 obtain⟨i0,hi,Hj,Hi,Hh⟩:=info_parts infoByte;obtain⟨a,cap,rfl,hc⟩:=Hd;obtain⟨R,hR⟩:∃R,R=textM l:=⟨_,rfl⟩;have HR:=z7 hR;rw[<-hR];clear hR;obtain⟨n,hn⟩:∃n,n=l.length:=⟨_,rfl⟩;have HC:=z7 hc;rw[<-hn]at hl ⊢;have HN:=z7 hn;clear hn hc
 go_enter func206,ntmps206
 go_wp2
 go_loop [4,12] (fun z i=>∃(k s:Nat),k<=n/\s<=4*k/\i=.int .i64 (k:Int)/\z=.int .i64 (s:Int)/\Hid (∀(j:Nat) (x:Int),j<k->l[j]?=some x->scalar x=true)) (fun _ i=>n-(intOf i).toNat)
 case atStart=>exact⟨0,0,zD,zA,rfl,rfl,fun j x h h'=>by omega⟩
 case round=>
  obtain⟨k,s,hk,hs,rfl,rfl,Hb⟩:=hrel;by_cases He:k<n
  . obtain⟨p,hp⟩:=zM l k (by rw[<-HN.out];exact He)
    obtain⟨g,o,rfl,H9⟩:=HC.out k _ (y3F l k p hp);have c1:=fun w=>y3V p w
    have c2:=fun w=>Tryz.utf8_RuneLen p w
    have HP:=z7 hp;by_cases Ha:scalar p=true
    . have Hf:=y5x p Ha
      rw[Ha]at c1;obtain⟨q,hq⟩:∃q:Nat,Lib.runeLen p=(q:Int):=⟨(Lib.runeLen p).toNat,by omega⟩;rw[hq]at c2 Hf;have C1:=z7 c1;have C2:=z7 c2;have HS:=z7 Ha;clear c1 c2 hq hp Ha
      go_wp2_with (first
       | (go_at_call 290;refine(C1.out _).mono ?_;rintro e w1 ⟨rfl,rfl⟩)
       | (go_at_call 291;refine(C2.out _).mono ?_;rintro e w1 ⟨rfl,rfl⟩))
      go_round
      case rel=>exact⟨k+1,s+q,by omega,by omega,by go_num,by go_num,fun j x h h'=>by
       rcases Nat.lt_or_ge j k with h1|h1
       . exact Hb.out j x h1 h'
       . have:j=k:=by omega
         subst this;rw[HP.out]at h';simp only[Option.some.injEq]at h';rw[<-h'];exact HS.out⟩
      case measure=>simp[intOf];omega
    . rw[show scalar p=false from by simpa using Ha]at c1
      have C1:=z7 c1;have E1:Hid (R=([],false)):=by
       show R=([],false);rw[HR.out];unfold textM;rw[if_neg];rw[List.all_eq_true];intro hh;exact Ha (hh _ (List.mem_of_getElem? hp))
      clear c1 c2 hp Ha
      go_wp2_with (go_at_call 290;refine(C1.out _).mono ?_;rintro e w1 ⟨rfl,rfl⟩)
      go_ret2
      exact⟨by rw[E1.out];rfl,z8⟩
  . have Hk:k=n:=by omega
    subst Hk;have H7:∀x∈l,scalar x=true:=by
     intro x hx;obtain⟨j,hj⟩:=List.getElem?_of_mem hx;exact Hb.out j x (by rw[HN.out];exact(List.getElem?_eq_some_iff.1 hj).1) hj
    have hT:R=(l.flatMap encR,true):=by
     rw[HR.out];unfold textM;rw[if_pos];rw[List.all_eq_true];exact H7
    have HT:=z7 hT;have HA:=z7 H7;clear hT H7 Hb;have hB:w.heap.size<=w.heap.size:=zA
    go_wp2_with (refine wpList_make_own _ rfl _ _ 94 rfl w.heap.size 5 i0 (.int .u8 0) 1 underlying94 hi Hj Hi .i64 .i64 (s:Int) s rfl rfl rfl (by rw[Hh];omega) (by unfold maxLen;omega) (zA) ?_;intro W H5 H8)
    have H6:Below w.heap.size w W:=(z8).grown H8 (zA) (by intro k hk;cases hk);clear H8;have H5:Own W w.heap.size (.slice (some ⟨w.heap.size,0,none⟩) 0 s) []:=H5
    go_loopw [7,28] (fun v i wr=>∃(j:Nat) (acc:List UInt8),j<=k/\acc.length<=4*j/\i=.int .i64 (j:Int)/\Own wr w.heap.size v acc/\Below w.heap.size w wr/\Hid (R=(acc++(l.drop j).flatMap encR,true))) (fun _ i _=>k-(intOf i).toNat)
    case atStart=>exact⟨0,[],zD,zA,rfl,H5,H6,by show R=_;have:=HT.out;simpa using this⟩
    case round=>
     obtain⟨j,acc,hj,Hn,rfl,H5,H6,hR⟩:=hrel;by_cases He:j<k
     . obtain⟨p,hp⟩:=zM l j (by rw[<-HN.out];exact He)
       obtain⟨g,o,rfl,H9⟩:=HC.out j _ (y3F l j p hp);obtain⟨p0,p1⟩:=y8I p (HA.out p (List.mem_of_getElem? hp));have Hg:=kc H6 H9;have Ho:=y1e p;have E1:Hid (R=((acc++encR p)++(l.drop (j+1)).flatMap encR,true)):=by
        show R=_;rw[hR.out,drop_at l j (List.getElem?_eq_some_iff.1 hp).1,(List.getElem?_eq_some_iff.1 hp).2];simp
       clear hp
       go_wp2_with (go_at_call 205;refine(y0V w.heap.size _ acc p _ (by omega) (by omega) H5 (by omega) (by exact H6.size)).mono ?_;rintro e w2 ⟨v',rfl,Hc,Hm⟩)
       go_roundw
       case rel=>exact⟨j+1,acc++encR p,by omega,by rw[zH];omega,by go_num,Hc,H6.trans Hm,E1⟩
       case measure=>simp[intOf];omega
     . have Hl:j=k:=by omega
       subst Hl;have E1:Hid (R=(acc,true)):=by
        show R=_;rw[hR.out,List.drop_of_length_le (by rw[HN.out];exact zA)];simp
       have Hp:=y16 H5;go_wp2;go_ret2
       exact⟨by rw[E1.out];rfl,H6⟩
section
variable {w w':World} {B:Nat} {e:TypeId} {s:Nat} {v:Value} {n:Nat} {cs:List Value}
theorem zf(h:w.ownsRow B e s v n cs):∀k,v.ownBlock=some k->B<=k/\k<w.heap.size:=by
 intro k hk;rcases h.2 with⟨rfl,_⟩|⟨g,cap,cur,rfl,hg,hh,_⟩
 . simp[Value.ownBlock]at hk
 . simp only[Value.ownBlock,Option.some.injEq]at hk
   subst hk;exact⟨hg,(Array.getElem?_eq_some_iff.1 hh).1⟩
theorem zK(h:w.ownsRow B e s v n cs)(hb:Below w.heap.size w w'):w'.ownsRow B e s v n cs:=by
 refine⟨h.1,?_⟩;rcases h.2 with h'|⟨g,cap,cur,hv,hg,hh,r⟩
 . exact .inl h'
 . exact .inr ⟨g,cap,cur,hv,hg,(hb.block g (Array.getElem?_eq_some_iff.1 hh).1).trans hh,r⟩
theorem y2L(h:w.ownsRow B e s v n cs)(hg:w.grownBy w' v.ownBlock)(hB:B<=w.heap.size):Below B w w':=
 (z8).grown hg hB fun k hk=>(zf h k hk).1
theorem zd{B':Nat}(h:w.ownsRow B e s v n cs)(hB:B'<=B):w.ownsRow B' e s v n cs:=by
 refine⟨h.1,?_⟩;rcases h.2 with h'|⟨g,cap,cur,hv,hg,r⟩
 . exact .inl h'
 . exact .inr ⟨g,cap,cur,hv,zE hB hg,r⟩
end
section
variable {P:Program} {ops:Array Oper} {rest:List Oper} {o:Oper} {a:Act} {Q:Exit->Act->World->Prop}
theorem zR(He:o.guard=none)(s x:Operand)(t e:TypeId)(ho:o.op=.call { callee:=.builtin .append,args:=#[s,x],argTypes:=#[t,t] })(ht:P.underlying t=some (.slice e))
 (z:Value) (size bytes:Nat) (hi:(P.info? e).map (fun i=>(i.zero,i.size,i.bytes))=some (some z,size,bytes)) (H6:z.cells.size=size) (Ha:0<size)
 (W:World) (B:Nat) (v:Value) (n:Nat) (cs:List Value) (hs:a.eval s=v) (H5:W.ownsRow B e size v n cs) (news:Array Value) (Hb:news.size=size) (h1:∀u∈news.toList,u.oneCell'=true)
 (hx:a.eval x=.slice (some ⟨W.heap.size,0,none⟩) 1 1) (Hd:n<70368744177664) (Hf:(n+1)*bytes<=140737488355328) (hB:B<=W.heap.size)
 (h:∀v' w',w'.ownsRow B e size v' (n+1) (cs++news.toList)->Below B W w'->(∀k,k<W.heap.size->some k≠v.ownBlock->w'.heap[k]?=W.heap[k]?)->wpList P ops Q rest (a.put o.dst v') w'):wpList P ops Q (o::rest) a (W.alloc (.cells news e)):=by
 obtain⟨i0,hi,H9,H8,H7⟩:=info_parts hi;refine wpList_append_own _ He s x t ho B e i0 z size bytes ht hi H9 H8 H7 H6 Ha v n cs hs (zK H5 ((z8).alloc (zA) _)) ⟨W.heap.size,0,none⟩ 1 1 news.toList hx (by simp[Hb]) ?_ h1 ?_ ?_ ?_ ?_
 . intro j u hj
   have ea:(⟨W.heap.size,0,none⟩:Addr).add j=⟨W.heap.size,j,none⟩:=by
    by_cases h0:j=0
    . subst h0;rfl
    . simp[Addr.add,h0]
   rw[ea,World.cell?_alloc_new];simpa using hj
 . unfold maxLen;omega
 . exact Hf
 . simp;omega
 . intro v' w1 h2 h3 _
   refine h v' w1 h2 (((z8).alloc hB _).trans (y2L (zK H5 ((z8).alloc (zA) _)) h3 (by simp;omega))) fun k hk Hc=>?_
   rw[h3.block k (by simp;omega) Hc];exact((z8).alloc (zA) _).block k hk
def ItS(w:World)(r:Nat)(s:ByteArray)(pos:Nat):Prop:=w.heap[r]?=some (.stringIter s pos)
theorem ItS.made(w:World)(s:ByteArray):ItS (w.iter s 0) w.heap.size s 0:=World.iter_heap w s 0
theorem ItS.lt{w:World}{r:Nat}{s:ByteArray}{pos:Nat}(h:ItS w r s pos):r<w.heap.size:=(Array.getElem?_eq_some_iff.1 h).1
theorem ItS.bel{w w':World}{r:Nat}{s:ByteArray}{pos:Nat}(h:ItS w r s pos)(hb:Below w.heap.size w w'):ItS w' r s pos:=(hb.block r h.lt).trans h
theorem ItS.blk{w w':World}{r:Nat}{s:ByteArray}{pos:Nat}(h:ItS w r s pos)(hb:w'.heap[r]?=w.heap[r]?):ItS w' r s pos:=hb.trans h
theorem ItS.grown{w w':World}{r:Nat}{s:ByteArray}{pos:Nat}{row:Option Nat}(h:ItS w r s pos)(hg:w.grownBy w' row)(H5:some r≠row):ItS w' r s pos:=h.blk (hg.block r h.lt H5)
theorem ItS.ne{w:World}{r:Nat}{s:ByteArray}{pos B:Nat}{e:TypeId}{sz n:Nat}{v:Value}{cs:List Value}(h:ItS w r s pos)(ho:w.ownsRow B e sz v n cs):some r≠v.ownBlock:=by
 intro e1;rcases ho.2 with⟨rfl,_⟩|⟨g,cap,cur,rfl,_,hh,_⟩
 . simp[Value.ownBlock]at e1
 . simp only[Value.ownBlock,Option.some.injEq]at e1
   subst e1;unfold ItS at h;rw[hh]at h;simp at h
theorem ItS.pos{w:World}{r:Nat}{s:ByteArray}{pos:Nat}(h:ItS w r s pos):w.iterPos r=pos:=by unfold World.iterPos;rw[show w.heap[r]?=_ from h]
theorem za{w w':World}{B:Nat}{e:TypeId}{s:Nat}{v:Value}{n:Nat}{cs:List Value}(h:w.ownsRow B e s v n cs)(hb:∀k,v.ownBlock=some k->w'.heap[k]?=w.heap[k]?):w'.ownsRow B e s v n cs:=by
 refine⟨h.1,?_⟩;rcases h.2 with h'|⟨g,cap,cur,hv,hg,hh,r⟩
 . exact .inl h'
 . exact .inr ⟨g,cap,cur,hv,hg,(hb g (by rw[hv];rfl)).trans hh,r⟩
def itTo(w:World)(r:Nat)(s:ByteArray)(pos:Nat):World:={ w with heap:=w.heap.setIfInBounds r (.stringIter s pos) }
theorem yJl{w:World}{r:Nat}{s:ByteArray}{pos:Nat}(h:ItS w r s pos)(p':Nat):ItS (itTo w r s p') r s p':=by
 unfold ItS itTo;simp[h.lt]
theorem yCu(w:World)(r:Nat)(s:ByteArray)(pos:Nat):w.grownBy (itTo w r s pos) (some r):=
 ⟨rfl,rfl,rfl,by simp[itTo],fun k _ hk=>by unfold itTo;simp only;rw[Array.getElem?_setIfInBounds_ne (fun e=>hk (by rw[e]))]⟩
theorem y3v(Ha:o.guard=none)(x:Operand)(ho:o.op=.next x true)(w:World)(r:Nat)(s:ByteArray)(pos:Nat)(hx:a.eval x=.pointer (some ⟨r,0,none⟩))(hI:ItS w r s pos)
 (H7:s.size<=pos->wpList P ops Q rest (a.put o.dst (.tuple #[.bool false])) w)
 (H6:pos<s.size->∀c k,dec ((bl s).drop pos)=(c,k)->wpList P ops Q rest (a.put o.dst (.tuple #[.bool true,.int .i64 (pos:Int),.int .i32 (c:Int)])) (itTo w r s (pos+k))):
 wpList P ops Q (o::rest) a w:=by
 refine wpList_plain Ha fun K hK=>?_
 have H8:w.heap[r]?=some (.stringIter s pos):=hI;by_cases h:pos<s.size
 . have hd:=y6Y (bl s) pos
   rw[y1Z]at hd;rcases H9:dec ((bl s).drop pos)with⟨c,k⟩
   rw[H9]at hd;have H5:(Instr.next (.pointer (some ⟨r,0,none⟩)) true o.type).run P w=.ok (.tuple #[.bool true,.int .i64 (pos:Int),.int .i32 (c:Int)]) (itTo w r s (pos+k)):=by
    simp only[Instr.next,getObj,setObj,Sem.run_bind,Sem.run,H8,Result.andThen,h,if_true,hd];simp[goInt,itTo,H8,Sem.run]
   unfold Oper.wp execOp;simp[ho,hx,H5,Result.andThen];exact hK _ _ (H6 h c k H9)
 . have H5:(Instr.next (.pointer (some ⟨r,0,none⟩)) true o.type).run P w=.ok (.tuple #[.bool false]) w:=by
    simp[Instr.next,getObj,Sem.run,H8,h]
   unfold Oper.wp execOp;simp[ho,hx,H5,Result.andThen];exact hK _ _ (H7 (by omega))
theorem y10(H6:o.guard=none)(x:Operand)(ho:o.op=.next x true)(w:World)(r:Nat)(s:ByteArray)(pos:Nat)(hx:a.eval x=.pointer (some ⟨r,0,none⟩))(hI:ItS w r s pos)(H7:s.size<=pos)
 (h:wpList P ops Q rest (a.put o.dst (.tuple #[.bool false])) w):wpList P ops Q (o::rest) a w:=
 y3v H6 x ho w r s pos hx hI (fun _=>h) (fun H5=>absurd H5 (by omega))
theorem zu(H6:o.guard=none)(x:Operand)(ho:o.op=.next x true)(w:World)(r:Nat)(s:ByteArray)(pos:Nat)(hx:a.eval x=.pointer (some ⟨r,0,none⟩))(hI:ItS w r s pos)(H5:pos<s.size)(c k:Nat)(hd:Hid (dec ((bl s).drop pos)=(c,k)))
 (h:∀w',ItS w' r s (pos+k)->(∀j,j≠r->w'.heap[j]?=w.heap[j]?)->w.grownBy w' (some r)->wpList P ops Q rest (a.put o.dst (.tuple #[.bool true,.int .i64 (pos:Int),.int .i32 (c:Int)])) w'):wpList P ops Q (o::rest) a w:=
 y3v H6 x ho w r s pos hx hI (fun h=>absurd H5 (by omega)) fun _ c' k' H7=>by
  have e:=hd.out.symm.trans H7;simp only[Prod.mk.injEq]at e;obtain⟨rfl,rfl⟩:=e;exact h _ (yJl hI _) (fun j hj=>by unfold itTo;simp only;rw[Array.getElem?_setIfInBounds_ne (fun e=>hj e.symm)]) (yCu _ _ _ _)
end
theorem yIF(a b c d:Int)(w:World):(Op.equalIn 10000 40 (.agg #[.int .i64 a,.int .i64 b]) (.agg #[.int .i64 c,.int .i64 d])).run prog w=.ok (a==c&&b==d) w:=by
 have hS:Tryz.prog.underlying 40=some (.struct (Tryz.prog.fieldsOf 40)):=by kernel_rfl
 have hp:Tryz.prog.stoodInHeld 40=false:=by kernel_rfl
 rw[show(10000:Nat)=9999+1 from rfl,run_equalIn_agg w 9999 40 _ _ hS hp];simp only[Program.fieldsOf,underlying40];simp[go_sem,Op.eqFields];by_cases h1:a=c<;>by_cases h2:b=d<;>simp[h1,h2]
theorem yAT(a b c d:Int)(w:World):(binOp .eql 40 (.agg #[.int .i64 a,.int .i64 b]) (.agg #[.int .i64 c,.int .i64 d])).run prog w=.ok (.bool (a==c&&b==d)) w:=by
 rw[run_eql_struct,yIF];rfl
theorem y3h(op:BinOp)(x y:Operand)(xs ys:Array Value)(w:World):(eqGuard op 40 x y (.agg xs) (.agg ys)).run prog w=.ok () w:=run_eqGuard_agg w op 40 x y xs ys (by kernel_rfl)
theorem yK2(s:ByteArray)(k:Int)(w:World)(hs:s.size<=1000000)(hH:y1i (bl s))(H9 : -100000<=k)(Hb:k<=1000000):
 Calls prog 397 #[.string s,.int .i64 k] w fun e w'=>
  e=.returned (.tuple #[.int .i32 (atM (bl s) k).1,.bool (atM (bl s) k).2])/\w=w':=by
 have hL:=zJ s;show Calls prog 397 #[.string s,.int .i64 k] w fun e w'=>
  e=.returned (.tuple #[.int .i32 (if k<0\/((bl s).length/5:Nat)<=k then 0 else hexAt (bl s) k.toNat 4),.bool (!decide (k<0\/((bl s).length/5:Nat)<=k))])/\w=w'
 rw[hL];by_cases hb:k<0\/((s.size/5:Nat):Int)<=k
 . rw[if_pos hb,decide_eq_true hb]
   rcases hb with h|h
   . clear hL hH
     go_enter func397,ntmps397
     go_wp2
     go_ret2
     exact⟨rfl,rfl⟩
   . have hq:(s.size:Int)/5<=k:=by omega
     have h0:0<=k:=by omega
     clear hL hH h
     go_enter func397,ntmps397
     go_wp2
     go_ret2
     exact⟨rfl,rfl⟩
 . rw[if_neg hb,decide_eq_false hb]
   obtain⟨k,rfl⟩:=Int.eq_ofNat_of_zero_le (show 0<=k from by omega);have hq:(k:Int)<(s.size:Int)/5:=by omega
   rw[Int.toNat_natCast];have HH:=z7 hH;have HL:=z7 hL;clear hH hb H9 hL
   go_enter func397,ntmps397
   go_wp2
   go_loop [6,7] (fun p i=>∃j:Nat,j<=4/\i=.int .i64 ((k:Int)*5+j)/\p=.int .i32 (hexAt (bl s) k j)) (fun _ i=>(k*5+4-intOf i).toNat)
   case atStart=>exact⟨0,by omega,by simp,rfl⟩
   case round=>
    obtain⟨j,hj,rfl,rfl⟩:=hrel;by_cases H8:j<4
    . have H6:k*5+j<s.size:=by omega
      obtain⟨h0,h1⟩:=y4c (bl s) k j HH.out (by rw[HL.out];omega) hj;have h2:(16:Int)^j<=4096:=by
       match j,H8 with
       | 0,_=>decide
       | 1,_=>decide
       | 2,_=>decide
       | 3,_=>decide
      have h3:hexAt (bl s) k j<4096:=by omega
      obtain⟨d0,d1⟩:=HH.out k j (by rw[HL.out];omega) H8;have H7:hexAt (bl s) k (j+1)=hexAt (bl s) k j*16+hexv ((bl s).getD (k*5+j) 0):=rfl;have hx:AtB s (k*5+j) ((bl s).getD (k*5+j) 0):=by
       apply zS;have H5:k*5+j<(bl s).length:=by rw[HL.out];exact H6
       rw[List.getD_eq_getElem?_getD,List.getElem?_eq_getElem H5];rfl
      generalize (bl s).getD (k*5+j) 0=c at *;have c1:=fun w=>y45 c w
      have X:∀h,s[k*5+j]'h=c:=hx;generalize hexAt (bl s) k j=p at *;generalize hexv c=d at *;have e1:bits .or .i32 (p*16) d=p*16+d:=yAG _ _ (by omega) (by omega) (by omega) (by omega) (by omega);have C1:=z7 c1;have HS:=z7 H7;have HX:=z7 hx;clear c1 H7 h1 h2 hx
      go_wp2_with (go_at_call 286;with_reducible refine(C1.out _).mono ?_;rintro e w' ⟨rfl,rfl⟩)
      go_round
      case rel=>exact⟨j+1,by omega,by go_num,by rw[HS.out]⟩
      case measure=>simp[intOf];omega
    . have Ha:j=4:=by omega
      subst Ha;go_wp2;go_ret2
      exact⟨rfl,rfl⟩
def b5cell(s:Int):Int:=if 64<=s/\s<=126 then s-64 else if 161<=s/\s<=254 then s-161+63 else -1
def bsecond(c:Int):Int:=if c<63 then 64+c else 161+c-63
theorem y3r(s:Int)(w:World)(h0 : -1000<=s)(h1:s<=1000):
 Calls prog 361 #[.int .i64 s] w fun e w'=>e=.returned (.int .i64 (b5cell s))/\w=w':=by
 go_enter func361,ntmps361
 go_wp2
 all_goals go_ret
 all_goals (refine⟨y3A ?_,rfl⟩;unfold b5cell;omega)
theorem yAg(s:Int)(w:World)(h0 : -1000<=s)(h1:s<=1000):
 Calls prog 360 #[.int .i64 s] w fun e w'=>e=.returned (.int .i64 (bsecond s))/\w=w':=by
 go_enter func360,ntmps360
 go_wp2
 all_goals go_ret
 all_goals (refine⟨y3A ?_,rfl⟩;unfold bsecond;omega)
theorem y9H(l s:Int)(w:World)(h0:0<=l)(h1:l<=255)(h2:0<=s)(h3:s<=255):
 Calls prog 357 #[.int .i64 l,.int .i64 s] w fun e w'=>e=.returned (.string ⟨(bigL (l*256+s) 2).toArray⟩)/\Below w.heap.size w w':=by
 have e1:bits .or .i64 (l*256) s=l*256+s:=y2o _ _ (by omega) (by omega) (by omega) (by omega) (by omega);have c1:=fun w=>y2D (l*256+s) 2 w (by omega) (by omega)
 rw[show widthOf 2=2 from by decide]at c1;have C1:=z7 c1;clear c1
 go_enter func357,ntmps357
 go_wp2_with (go_at_call 115;refine(C1.out _).mono ?_;rintro e w' ⟨rfl,hb⟩)
 go_ret
 exact⟨rfl,hb⟩
def strOfB(o:Oper):ByteArray:=match o.op with
 | .build _ fs=>match fs.toList with
  | [_,_,(_,Operand.const (.string s))]=>s
  | _=>ByteArray.empty
 | _=>ByteArray.empty
def codeOf(f:Func):Code:=match f.body with
 | some c=>c
 | none=>.skip
def yK1(f:Func)(region op:Nat):ByteArray:=match y06 (codeOf f) region with
 | some ops=>match ops[op]? with|some o=>strOfB o|none=>ByteArray.empty
 | none=>ByteArray.empty
def subO(t:ByteArray):Operand->Operand
 | .const (.string _)=>.const (.string t)
 | x=>x
def subF(t:ByteArray):List (Nat×Operand)->List (Nat×Operand)
 | []=>[]
 | (i,x)::l=>(i,subO t x)::subF t l
def subP(t:ByteArray):Op->Op
 | .build ty fs=>.build ty (subF t fs.toList).toArray
 | x=>x
def yDp(S:Nat->ByteArray):Nat->List Oper->List Oper
 | _,[]=>[]
 | n,o::l=>{ o with op:=subP (S n) o.op }::yDp S (n+1) l
def y77(S:Nat->ByteArray):Code->Code
 | .region i ops b=>.region i (yDp S 0 ops.toList).toArray b
 | .seq a b=>.seq (y77 S a) (y77 S b)
 | c=>c
def bStr(i:Nat):ByteArray:=yK1 Tryz.f358 1 i
theorem yCI:Tryz.f358.body=some (y77 bStr (codeOf Tryz.f358)):=by kernel_rfl
section
variable {P:Program} {ops:Array Oper} {rest:List Oper} {o:Oper} {a:Act} {Q:Exit->Act->World->Prop} {w:World}
theorem wpB(hg:o.guard=none)(t:TypeId)(parts:Array (Nat×Operand))(ho:o.op=.build t parts)(vals:List (Nat×Value))(hv:(parts.map fun(i,x)=>(i,a.eval x)).toList=vals)
 (cells:Array Value) (hb:P.built t vals=some cells) (h:wpList P ops Q rest (a.put o.dst (.agg cells)) w):wpList P ops Q (o::rest) a w:=by
 refine wpList_build hg t parts ho (by rw[hv,hb];rfl) ?_;rw[hv,hb];exact h
end
def y1g(S:Nat->ByteArray):List (Int×Int×ByteArray):=
 [(136,86,S 0),(136,99,S 1),(136,101,S 2),(136,117,S 3),(136,161,S 4),(136,164,S 5),(136,166,S 6),(161,64,S 7),(163,64,S 8),(164,64,S 9),(165,64,S 10)]
def y2X(S:Nat->ByteArray):Array Value:=((y1g S).flatMap fun s=>[.int .i64 s.1,.int .i64 s.2.1,.string s.2.2]).toArray
theorem yFU:(Tryz.prog.info? 370).map (·.size)=some 33:=by kernel_rfl
theorem y6d(w:World):
 Calls prog 358 #[] w fun e w'=>e=.returned (.agg (y2X bStr))/\Below w.heap.size w w':=by
 have hc:=yCI;generalize bStr=S at *;refine calls_of_wp func358 hc ?_;clear hc
 conv=>arg 2;simp only[codeOf,Tryz.f358,y77,yDp,subP,subF,subO,List.toList_toArray,Nat.zero_add,Nat.reduceAdd]
 have hA:y2X S=#[.int .i64 136,.int .i64 86,.string (S 0),.int .i64 136,.int .i64 99,.string (S 1),.int .i64 136,.int .i64 101,.string (S 2),.int .i64 136,.int .i64 117,.string (S 3),
  .int .i64 136,.int .i64 161,.string (S 4),.int .i64 136,.int .i64 164,.string (S 5),.int .i64 136,.int .i64 166,.string (S 6),.int .i64 161,.int .i64 64,.string (S 7),
  .int .i64 163,.int .i64 64,.string (S 8),.int .i64 164,.int .i64 64,.string (S 9),.int .i64 165,.int .i64 64,.string (S 10)]:=rfl
 generalize S 0=s0 at *;generalize S 1=s1 at *;generalize S 2=s2 at *;generalize S 3=s3 at *;generalize S 4=s4 at *;generalize S 5=s5 at *;generalize S 6=s6 at *;generalize S 7=s7 at *;generalize S 8=s8 at *;generalize S 9=s9 at *;generalize S 10=s10 at *;obtain⟨arr,H5⟩:∃arr,arr=y2X S:=⟨_,rfl⟩;rw[<-H5];rw[hA]at H5;have H8:arr.size=33:=by rw[H5];rfl
 have H6:arr.all (·.oneCell')=true:=by rw[H5];as_aux_lemma=>kernel_rfl
 have H7:(Tryz.prog.info? 370).map (·.size)=some arr.size:=by rw[H8];exact yFU
 have HR:=z7 H5;have HO:=z7 H6;have HI:=z7 H7;have HZ:=z7 H8;clear hA H5 H6 H7 H8;simp only[ntmps358,List.size_toArray,List.length_cons,List.length_nil,Nat.reduceAdd,Nat.reduceSub,Array.replicate_succ,Array.replicate_zero,List.push_toArray,List.append_toArray,List.nil_append,List.cons_append];apply wp_seq_k;intro K0 Ha;have Hc:=z7 Ha;clear Ha
 go_wp2_with fail
 refine Hc.out _ _ ?_;clear Hc;apply wp_seq_k;intro K1 H9;have Hb:=z7 H9;clear H9 K0;apply wp_region_lit;refine wpB rfl _ _ rfl _ rfl #[.int .i64 136,.int .i64 86,.string s0] (by as_aux_lemma=>kernel_rfl) ?_;refine wpB rfl _ _ rfl _ rfl #[.int .i64 136,.int .i64 99,.string s1] (by as_aux_lemma=>kernel_rfl) ?_;refine wpB rfl _ _ rfl _ rfl #[.int .i64 136,.int .i64 101,.string s2] (by as_aux_lemma=>kernel_rfl) ?_;refine wpB rfl _ _ rfl _ rfl #[.int .i64 136,.int .i64 117,.string s3] (by as_aux_lemma=>kernel_rfl) ?_;refine wpB rfl _ _ rfl _ rfl #[.int .i64 136,.int .i64 161,.string s4] (by as_aux_lemma=>kernel_rfl) ?_;refine wpB rfl _ _ rfl _ rfl #[.int .i64 136,.int .i64 164,.string s5] (by as_aux_lemma=>kernel_rfl) ?_;refine wpB rfl _ _ rfl _ rfl #[.int .i64 136,.int .i64 166,.string s6] (by as_aux_lemma=>kernel_rfl) ?_;refine wpB rfl _ _ rfl _ rfl #[.int .i64 161,.int .i64 64,.string s7] (by as_aux_lemma=>kernel_rfl) ?_;refine wpB rfl _ _ rfl _ rfl #[.int .i64 163,.int .i64 64,.string s8] (by as_aux_lemma=>kernel_rfl) ?_;refine wpB rfl _ _ rfl _ rfl #[.int .i64 164,.int .i64 64,.string s9] (by as_aux_lemma=>kernel_rfl) ?_;refine wpB rfl _ _ rfl _ rfl #[.int .i64 165,.int .i64 64,.string s10] (by as_aux_lemma=>kernel_rfl) ?_;refine wpB rfl _ _ rfl _ rfl arr (by rw[HR.out];as_aux_lemma=>kernel_rfl) ?_;refine Go.wpList_store_row rfl 370 _ _ rfl w.heap.size arr (by as_aux_lemma=>kernel_rfl) (by as_aux_lemma=>kernel_rfl) 370 _ (heap_alloc_new _ _) HI.out (by rw[HZ.out];as_aux_lemma=>kernel_rfl) HO.out ?_;apply wpList_nil;refine Hb.out _ _ ?_;clear Hb K1;apply wp_ret;refine bodyPost_ret (results_cell_row rfl _ _ w.heap.size 370 arr (0,0) _ (by as_aux_lemma=>kernel_rfl) (setRow_heap _ _ _ _ _ _ (heap_alloc_new _ _)) underlying370 rfl HI.out) rfl ⟨?_,?_⟩
 . rfl
 . exact below_setRow ((z8).alloc (zA) _) _ (zA) _
def bSpans:List (Int×Int×ByteArray):=y1g bStr
theorem y2W:bSpans.length=11:=rfl
theorem y5j(S:Nat->ByteArray)(i:Nat)(s:Int×Int×ByteArray)(h:(y1g S)[i]?=some s):
 (y2X S).extract (i*3) (i*3+3)=#[.int .i64 s.1,.int .i64 s.2.1,.string s.2.2]:=by
 have hi:i<11:=by
  have:=(List.getElem?_eq_some_iff.1 h).1;exact this
 match i,hi,h with
 | 0,_,h=>cases h;rfl
 | 1,_,h=>cases h;rfl
 | 2,_,h=>cases h;rfl
 | 3,_,h=>cases h;rfl
 | 4,_,h=>cases h;rfl
 | 5,_,h=>cases h;rfl
 | 6,_,h=>cases h;rfl
 | 7,_,h=>cases h;rfl
 | 8,_,h=>cases h;rfl
 | 9,_,h=>cases h;rfl
 | 10,_,h=>cases h;rfl
def hexLin:List UInt8->Nat->Bool
 | [],_=>true
 | b::l,p=>(decide (p=4) || (decide (0<=hexv b)&&decide (hexv b<=15)))&&hexLin l (if p=4 then 0 else p+1)
theorem yFa(l:List UInt8):∀p i,p<5->hexLin l p=true->i<l.length->(p+i)%5≠4->0<=hexv (l.getD i 0)/\hexv (l.getD i 0)<=15:=by
 induction l with
 | nil=>intro p i _ _ h;simp at h
 | cons b l ih=>
  intro p i hp h hi hm;rw[hexLin,Bool.and_eq_true,Bool.or_eq_true,Bool.and_eq_true,decide_eq_true_eq,decide_eq_true_eq,decide_eq_true_eq]at h;cases i with
  | zero=>rcases h.1 with h'|h'
          . omega
          . exact h'
  | succ i=>
   have:=ih (if p=4 then 0 else p+1) i (by split<;>omega) h.2 (by simpa using hi) (by split<;>omega);simpa using this
theorem y5W(l:List UInt8)(h:hexLin l 0=true):y1i l:=fun k j hk hj=>yFa l 0 (k*5+j) (by omega) h hk (by omega)
theorem yK3:∀i:Fin 11,(bStr i.val).size<=1000/\hexLin (bl (bStr i.val)) 0=true:=by decide +kernel
theorem yAk(S:Nat->ByteArray)(k:∀i,i<11->(S i).size<=1000/\hexLin (bl (S i)) 0=true)(s:Int×Int×ByteArray)(h:s∈y1g S):
 (0<=s.1/\s.1<=255/\0<=s.2.1/\s.2.1<=255/\s.2.2.size<=1000)/\y1i (bl s.2.2):=by
 simp only[y1g,List.mem_cons,List.not_mem_nil,or_false]at h;rcases h with h|h|h|h|h|h|h|h|h|h|h
 all_goals subst h
 all_goals refine⟨⟨by simp,by simp,by simp,by simp,(k _ ?_).1⟩,y5W _ (k _ ?_).2⟩
 all_goals omega
theorem y9I(s:Int×Int×ByteArray)(h:s∈bSpans):(0<=s.1/\s.1<=255/\0<=s.2.1/\s.2.1<=255/\s.2.2.size<=1000)/\y1i (bl s.2.2):=
 yAk bStr (fun i hi=>yK3 ⟨i,hi⟩) s h
def oneL:List (Int×Int×ByteArray)->Int->Int->Int×Bool
 | [],_,_=>(0,false)
 | s::l,lead,c=>if s.1=lead then(if(atM (bl s.2.2) (c-b5cell s.2.1)).2=true then((atM (bl s.2.2) (c-b5cell s.2.1)).1,true)else oneL l lead c)else oneL l lead c
def oneM(lead second:Int):Int×Bool:=if b5cell second<0 then(0,false)else oneL bSpans lead (b5cell second)
theorem y9K(s:Int) : -1<=b5cell s/\b5cell s<=156:=by unfold b5cell;omega
theorem yJR(lead second:Int)(w:World)(h0:0<=lead)(h1:lead<=255)(h2:0<=second)(h3:second<=255):
 Calls prog 355 #[.int .i64 lead,.int .i64 second] w fun e w'=>e=.returned (.tuple #[.int .i32 (oneM lead second).1,.bool (oneM lead second).2])/\Below w.heap.size w w':=by
 have c1:=fun w=>y3r second w (by omega) (by omega)
 have hm:oneM lead second=if b5cell second<0 then(0,false)else oneL bSpans lead (b5cell second):=rfl
 obtain⟨c0,cm⟩:=y9K second;generalize b5cell second=c at *;generalize oneM lead second=R at *;have C1:=z7 c1;have HM:=z7 hm;clear c1 hm;by_cases hc:c<0
 . have Hd:c = -1:=by omega
   subst Hd
   go_enter func355,ntmps355
   go_wp2_with (go_at_call 361;with_reducible refine(C1.out _).mono ?_;rintro e w1 ⟨rfl,rfl⟩)
   go_ret2
   exact⟨by rw[HM.out];rfl,z8⟩
 . have H7:=HM.out
   rw[if_neg hc]at H7;have He:=z7 H7;clear H7 HM
   go_enter func355,ntmps355
   go_wp2_with (first
    | (go_at_call 361;with_reducible refine(C1.out _).mono ?_;rintro e w1 ⟨rfl,rfl⟩)
    | (go_at_call 358;refine(y6d _).mono ?_;rintro e W ⟨rfl,hb⟩))
   obtain⟨A,hA⟩:∃A,A=y2X bStr:=⟨_,rfl⟩;rw[<-hA];have HA:=z7 hA;clear hA
   go_loopw [16] (fun t wr=>∃i:Nat,t=.int .i64 (i:Int)/\i<=11/\Hid (R=oneL (bSpans.drop i) lead c)/\Below W.heap.size W wr) (fun t _=>(11-intOf t).toNat)
   case atStart=>exact⟨0,rfl,by omega,He,z8⟩
   case round=>
    obtain⟨i,rfl,hi,hR,H5⟩:=hrel;have H9:=hb.trans (H5.mono hb.size);by_cases Hc:i<11
    . obtain⟨s,hs⟩:=zM bSpans i (by rw[y2W];exact Hc)
      obtain⟨Ha,hH⟩:=y9I s (List.mem_of_getElem? hs);have hx:=y5j bStr i s hs;rw[<-HA.out]at hx;have hr:=hR.out;rw[drop_at bSpans i (List.getElem?_eq_some_iff.1 hs).1,(List.getElem?_eq_some_iff.1 hs).2]at hr;obtain⟨a,b,q⟩:=s;simp only at Ha hH hx;rw[oneL]at hr;simp only at hr;obtain⟨a0,a1,b0,b1,q1⟩:=Ha;obtain⟨d0,d1⟩:=y9K b;have c2:=fun w=>y3r b w (by omega) (by omega)
      have c3:=fun w=>yK2 q (c-b5cell b) w (by omega) hH (by omega) (by omega)
      generalize b5cell b=d at *;generalize atM (bl q) (c-d)=p at *;obtain⟨p1,p2⟩:=p;simp only at hr c3;have HX:=z7 hx;have C2:=z7 c2;have C3:=z7 c3;have HR:=z7 hr;clear hx c2 c3 hr hs hH;by_cases ha:a=lead
      . subst ha
        have hr:=HR.out;rw[if_pos rfl]at hr;by_cases hp:p2=true
        . rw[if_pos hp]at hr
          have H6:=z7 hr;subst hp;clear hr HR
          go_wp2_with (refine zc rfl 370 _ _ rfl 11 369 underlying370 _ underlying369 rfl 3 (by kernel_rfl) A rfl .i64 i rfl (by omega) _ HX.out ?_)
          go_quiet (first
           | (go_at_call 361;exact Calls.quiet_of_same ((C2.out _).mono fun e w' h=>⟨h.1,h.2.symm⟩))
           | (go_at_call 397;exact Calls.quiet_of_same ((C3.out _).mono fun e w' h=>⟨h.1,h.2.symm⟩)))
          go_wp2_with fail
          go_ret2
          exact⟨by rw[H6.out];rfl,bdnB (H9.alloc (by have:=H9.size;omega) _) _⟩
        . rw[if_neg hp]at hr
          have H6:=z7 hr;have Hb:p2=false:=by simpa using hp
          subst Hb;clear hr HR hp
          go_wp2_with (refine zc rfl 370 _ _ rfl 11 369 underlying370 _ underlying369 rfl 3 (by kernel_rfl) A rfl .i64 i rfl (by omega) _ HX.out ?_)
          go_quiet (first
           | (go_at_call 361;exact Calls.quiet_of_same ((C2.out _).mono fun e w' h=>⟨h.1,h.2.symm⟩))
           | (go_at_call 397;exact Calls.quiet_of_same ((C3.out _).mono fun e w' h=>⟨h.1,h.2.symm⟩)))
          go_wp2_with fail
          go_roundw
          case rel=>exact⟨i+1,by go_num,by omega,H6,bdnB (H5.alloc H5.size _) _⟩
          case measure=>simp[intOf];omega
      . have hr:=HR.out
        rw[if_neg ha]at hr;have H6:=z7 hr;have Hf:(a==lead)=false:=by simpa using ha
        clear hr HR ha
        go_wp2_with (refine zc rfl 370 _ _ rfl 11 369 underlying370 _ underlying369 rfl 3 (by kernel_rfl) A rfl .i64 i rfl (by omega) _ HX.out ?_)
        go_roundw
        case rel=>exact⟨i+1,by go_num,by omega,H6,H5.alloc H5.size _⟩
        case measure=>simp[intOf];omega
    . have H8:i=11:=by omega
      subst H8;have hr:=hR.out;rw[List.drop_of_length_le (by rw[y2W];exact zA),oneL]at hr;have H6:=z7 hr;clear hr hR
      go_wp2_with fail
      go_ret2
      exact⟨by rw[H6.out];rfl,H9⟩
def bTwos:List (Int×Int×Int):=[(98,202,772),(100,202,780),(163,234,772),(165,234,780)]
def bTwoArr:Array Value:=(bTwos.flatMap fun s=>[.int .i64 s.1,.int .i32 s.2.1,.int .i32 s.2.2]).toArray
theorem yHy:(Tryz.prog.info? 365).map (·.size)=some 12:=by kernel_rfl
theorem y9D(w:World):
 Calls prog 356 #[] w fun e w'=>e=.returned (.agg bTwoArr)/\Below w.heap.size w w':=by
 go_enter func356,ntmps356
 go_wp2_with fail
 refine bodyPost_ret (results_cell_row rfl _ _ w.heap.size 365 bTwoArr (0,0) _ rfl (heap_alloc_new _ _) underlying365 rfl yHy) rfl ⟨rfl,(z8).alloc (zA) _⟩
