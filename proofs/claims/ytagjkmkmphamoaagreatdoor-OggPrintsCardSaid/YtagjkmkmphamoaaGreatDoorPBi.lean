/- Bi -/
import Derived.Maps.RangeWalk
import Derived.Test.YtagjkmkmphamoaaGreatDoorPWb
set_option linter.all false
set_option maxHeartbeats 4000000
namespace Go.Proofs.YtagjkmkmphamoaaGreatDoor
open Go.RowKit
def Row(w:World)(v:Value)(n:Nat)(cs:List Value):Prop:=
 ∃a cap,v=.slice a n cap∧∀(j:Nat) (x:Value),cs[j]?=some x→∃g o,a=some ⟨g,o,none⟩∧w.cell? ⟨g,o+j,none⟩=some x
theorem Row.keep{w w':World}{v:Value}{n:Nat}{cs:List Value}(h:Row w v n cs)(hb:Below w.heap.size w w'):Row w' v n cs:=by
 obtain⟨a,cap,hv,h⟩:=h;refine⟨a,cap,hv,fun j x hj=>?_⟩;obtain⟨g,o,ha,hc⟩:=h j x hj;exact⟨g,o,ha,kc hb hc⟩
theorem Row.nil(w:World):Row w (.slice none 0 0) 0 []:=⟨none,0,rfl,fun j x h=>by simp at h⟩
theorem jc2{w:World}{B:Nat}{e:TypeId}{s:Nat}{v:Value}{n:Nat}{cs:List Value}(h:w.ownsRow B e s v n cs):Row w v n cs:=by
 have h':=h;rcases h.2 with⟨rfl,rfl⟩|⟨g,cap,cur,rfl,hg,hh,hnc,hcm,hcs,htk⟩
 · have:cs = []:=List.eq_nil_of_length_eq_zero (by have:=h.1;simpa using this)
   subst this;exact Row.nil w
 · refine⟨some ⟨g,0,none⟩,cap,rfl,fun j x hj=>⟨g,0,rfl,?_⟩⟩
   have hl:j<n*s:=by have:=(List.getElem?_eq_some_iff.1 hj).1;have:=h.1;omega
   rw[Nat.zero_add,h'.cellAt j hl];exact hj
def icells(l:List Int):List Value:=l.map fun b=>Value.int .i32 b
theorem jx4(l m:List Int):icells (l++m)=icells l++icells m:=by simp[icells]
theorem jx3(l:List Int)(k:Nat)(p:Int)(h:l[k]?=some p):(icells l)[k]?=some (.int .i32 p):=by simp[icells,h]
theorem jb6{α:Type}(l:List α)(k:Nat)(h:k<l.length):∃p,l[k]?=some p:=⟨l[k],by simp[h]⟩
def textM(l:List Int):List UInt8×Bool:=if l.all scalar then(l.flatMap encR,true)else([],false)
theorem kq3(p:Int)(h:scalar p=true):1≤Lib.runeLen p∧Lib.runeLen p≤4:=by
 unfold scalar at h;simp only[decide_eq_true_eq]at h;unfold Lib.runeLen
 repeat' split
 all_goals omega
theorem qg0(p:Int)(h:scalar p=true):0≤p∧p≤1114111:=by
 unfold scalar at h;simp only[decide_eq_true_eq]at h;omega
theorem jd1{α:Type}(l:List α)(k:Nat)(h:k<l.length):l.drop k=l[k]::l.drop (k+1):=List.drop_eq_getElem_cons h
theorem kf7(v:Value)(l:List Int)(w:World)(hrow:Row w v l.length (icells l))(hl:l.length≤1073741824):
 Calls Tryz.prog 159 #[v] w fun e w'=>e=.returned (.tuple #[.string ⟨(textM l).1.toArray⟩,.bool (textM l).2])∧Below w.heap.size w w':=by
 obtain⟨i0,hi,hz0,hz1,hz2⟩:=info_parts infoByte;obtain⟨a,cap,rfl,hc⟩:=hrow;obtain⟨R,hR⟩:∃R,R=textM l:=⟨_,rfl⟩;have HR:=Lib.hid hR;rw[←hR];clear hR;obtain⟨n,hn⟩:∃n,n=l.length:=⟨_,rfl⟩;have HC:=Lib.hid hc;rw[←hn]at hl ⊢;have HN:=Lib.hid hn;clear hn hc
 go_enter Tryz.func159,Tryz.ntmps159
 go_wp2
 go_loop [4,12] (fun z i=>∃(k s:Nat),k≤n∧s≤4*k∧i=.int .i64 (k:Int)∧z=.int .i64 (s:Int)∧Hid (∀(j:Nat) (x:Int),j<k→l[j]?=some x→scalar x=true)) (fun _ i=>n-(intOf i).toNat)
 case atStart=>exact⟨0,0,Nat.zero_le _,Nat.le_refl _,rfl,rfl,fun j x h h'=>by omega⟩
 case round=>
  obtain⟨k,s,hk,hs,rfl,rfl,hall⟩:=hrel;by_cases hlt:k<n
  · obtain⟨p,hp⟩:=jb6 l k (by rw[←HN.out];exact hlt)
    obtain⟨g,o,rfl,hcell⟩:=HC.out k _ (jx3 l k p hp);have c1:=fun w=>jz7 p w
    have c2:=fun w=>Tryz.utf8_RuneLen p w
    have HP:=Lib.hid hp;by_cases hsc:scalar p=true
    · have hlen:=kq3 p hsc
      rw[hsc]at c1;obtain⟨q,hq⟩:∃q:Nat,Lib.runeLen p=(q:Int):=⟨(Lib.runeLen p).toNat,by omega⟩;rw[hq]at c2 hlen;have C1:=Lib.hid c1;have C2:=Lib.hid c2;have HS:=Lib.hid hsc;clear c1 c2 hq hp hsc
      go_wp2_with (first
       | (go_at_call 181;refine(C1.out _).mono ?_;rintro e w1 ⟨rfl,rfl⟩)
       | (go_at_call 182;refine(C2.out _).mono ?_;rintro e w1 ⟨rfl,rfl⟩))
      go_round
      case rel=>exact⟨k+1,s+q,by omega,by omega,by go_num,by go_num,fun j x h h'=>by
       rcases Nat.lt_or_ge j k with h1|h1
       · exact hall.out j x h1 h'
       · have:j=k:=by omega
         subst this;rw[HP.out]at h';simp only[Option.some.injEq]at h';rw[←h'];exact HS.out⟩
      case measure=>simp[intOf];omega
    · rw[show scalar p=false from by simpa using hsc]at c1
      have C1:=Lib.hid c1;have E1:Hid (R=([],false)):=by
       show R=([],false);rw[HR.out];unfold textM;rw[if_neg];rw[List.all_eq_true];intro hh;exact hsc (hh _ (List.mem_of_getElem? hp))
      clear c1 c2 hp hsc
      go_wp2_with (go_at_call 181;refine(C1.out _).mono ?_;rintro e w1 ⟨rfl,rfl⟩)
      go_ret2
      exact⟨by rw[E1.out];rfl,Below.refl _ _⟩
  · have hkn:k=n:=by omega
    subst hkn;have hallS:∀x∈l,scalar x=true:=by
     intro x hx;obtain⟨j,hj⟩:=List.getElem?_of_mem hx;exact hall.out j x (by rw[HN.out];exact(List.getElem?_eq_some_iff.1 hj).1) hj
    have hT:R=(l.flatMap encR,true):=by
     rw[HR.out];unfold textM;rw[if_pos];rw[List.all_eq_true];exact hallS
    have HT:=Lib.hid hT;have HA:=Lib.hid hallS;clear hT hallS hall;have hB:w.heap.size≤w.heap.size:=Nat.le_refl _
    go_wp2_with (refine wpList_make_own _ rfl _ _ 140 rfl w.heap.size 5 i0 (.int .u8 0) 1 Tryz.underlying140 hi hz0 hz1 .i64 .i64 (s:Int) s rfl rfl rfl (by rw[hz2];omega) (by unfold maxLen;omega) (Nat.le_refl _) ?_;intro W hown hgrow)
    have hbel:Below w.heap.size w W:=(Below.refl _ _).grown hgrow (Nat.le_refl _) (by intro k hk;cases hk);clear hgrow;have hown:Own W w.heap.size (.slice (some ⟨w.heap.size,0,none⟩) 0 s) []:=hown
    go_loopw [7,28] (fun v i wr=>∃(j:Nat) (acc:List UInt8),j≤k∧acc.length≤4*j∧i=.int .i64 (j:Int)∧Own wr w.heap.size v acc∧Below w.heap.size w wr∧Hid (R=(acc++(l.drop j).flatMap encR,true))) (fun _ i _=>k-(intOf i).toNat)
    case atStart=>exact⟨0,[],Nat.zero_le _,Nat.le_refl _,rfl,hown,hbel,by show R=_;have:=HT.out;simpa using this⟩
    case round=>
     obtain⟨j,acc,hj,hacc,rfl,hown,hbel,hR⟩:=hrel;by_cases hlt:j<k
     · obtain⟨p,hp⟩:=jb6 l j (by rw[←HN.out];exact hlt)
       obtain⟨g,o,rfl,hcell⟩:=HC.out j _ (jx3 l j p hp);obtain⟨p0,p1⟩:=qg0 p (HA.out p (List.mem_of_getElem? hp));have hcell':=kc hbel hcell;have hel:=jj2 p;have E1:Hid (R=((acc++encR p)++(l.drop (j+1)).flatMap encR,true)):=by
        show R=_;rw[hR.out,jd1 l j (List.getElem?_eq_some_iff.1 hp).1,(List.getElem?_eq_some_iff.1 hp).2];simp
       clear hp
       go_wp2_with (go_at_call 150;refine(jh0 w.heap.size _ acc p _ (by omega) (by omega) hown (by omega) (by exact hbel.size)).mono ?_;rintro e w2 ⟨v',rfl,hown2,hb2⟩)
       go_roundw
       case rel=>exact⟨j+1,acc++encR p,by omega,by rw[List.length_append];omega,by go_num,hown2,hbel.trans hb2,E1⟩
       case measure=>simp[intOf];omega
     · have hjk:j=k:=by omega
       subst hjk;have E1:Hid (R=(acc,true)):=by
        show R=_;rw[hR.out,List.drop_of_length_le (by rw[HN.out];exact Nat.le_refl _)];simp
       have hcv:=jq6 hown
       go_wp2
       go_ret2
       exact⟨by rw[E1.out];rfl,hbel⟩
section
variable {w w':World} {B:Nat} {e:TypeId} {s:Nat} {v:Value} {n:Nat} {cs:List Value}
theorem jb7(h:w.ownsRow B e s v n cs):∀k,v.ownBlock=some k→B≤k∧k<w.heap.size:=by
 intro k hk;rcases h.2 with⟨rfl,_⟩|⟨g,cap,cur,rfl,hg,hh,_⟩
 · simp[Value.ownBlock]at hk
 · simp only[Value.ownBlock,Option.some.injEq]at hk
   subst hk;exact⟨hg,(Array.getElem?_eq_some_iff.1 hh).1⟩
theorem jb2(h:w.ownsRow B e s v n cs)(hb:Below w.heap.size w w'):w'.ownsRow B e s v n cs:=by
 refine⟨h.1,?_⟩;rcases h.2 with h'|⟨g,cap,cur,hv,hg,hh,r⟩
 · exact .inl h'
 · exact .inr ⟨g,cap,cur,hv,hg,(hb.block g (Array.getElem?_eq_some_iff.1 hh).1).trans hh,r⟩
theorem jn8(h:w.ownsRow B e s v n cs)(hg:w.grownBy w' v.ownBlock)(hB:B≤w.heap.size):Below B w w':=
 (Below.refl _ _).grown hg hB fun k hk=>(jb7 h k hk).1
theorem jc3{B':Nat}(h:w.ownsRow B e s v n cs)(hB:B'≤B):w.ownsRow B' e s v n cs:=by
 refine⟨h.1,?_⟩;rcases h.2 with h'|⟨g,cap,cur,hv,hg,r⟩
 · exact .inl h'
 · exact .inr ⟨g,cap,cur,hv,Nat.le_trans hB hg,r⟩
end
section
variable {P:Program} {ops:Array Oper} {rest:List Oper} {o:Oper} {a:Act} {Q:Exit→Act→World→Prop}
theorem jc4(hgd:o.guard=none)(s x:Operand)(t e:TypeId)(ho:o.op=.call { callee:=.builtin .append,args:=#[s,x],argTypes:=#[t,t] })(ht:P.underlying t=some (.slice e))
 (z:Value) (size bytes:Nat) (hi:(P.info? e).map (fun i=>(i.zero,i.size,i.bytes))=some (some z,size,bytes)) (hzs:z.cells.size=size) (hsz:0<size)
 (W:World) (B:Nat) (v:Value) (n:Nat) (cs:List Value) (hs:a.eval s=v) (hown:W.ownsRow B e size v n cs) (news:Array Value) (hnl:news.size=size) (h1:∀u∈news.toList,u.oneCell'=true)
 (hx:a.eval x=.slice (some ⟨W.heap.size,0,none⟩) 1 1) (hlen:n<70368744177664) (hby:(n+1)*bytes≤140737488355328) (hB:B≤W.heap.size)
 (h:∀v' w',w'.ownsRow B e size v' (n+1) (cs++news.toList)→Below B W w'→(∀k,k<W.heap.size→some k≠v.ownBlock→w'.heap[k]?=W.heap[k]?)→wpList P ops Q rest (a.put o.dst v') w'):wpList P ops Q (o::rest) a (W.alloc (.cells news e)):=by
 obtain⟨i0,hi,hz0,hz1,hz2⟩:=info_parts hi;refine wpList_append_own _ hgd s x t ho B e i0 z size bytes ht hi hz0 hz1 hz2 hzs hsz v n cs hs (jb2 hown ((Below.refl _ _).alloc (Nat.le_refl _) _)) ⟨W.heap.size,0,none⟩ 1 1 news.toList hx (by simp[hnl]) ?_ h1 ?_ ?_ ?_ ?_
 · intro j u hj
   have ea:(⟨W.heap.size,0,none⟩:Addr).add j=⟨W.heap.size,j,none⟩:=by
    by_cases h0:j=0
    · subst h0;rfl
    · simp[Addr.add,h0]
   rw[ea,World.cell?_alloc_new];simpa using hj
 · unfold maxLen;omega
 · exact hby
 · simp;omega
 · intro v' w1 h2 h3 _
   refine h v' w1 h2 (((Below.refl _ _).alloc hB _).trans (jn8 (jb2 hown ((Below.refl _ _).alloc (Nat.le_refl _) _)) h3 (by simp;omega))) fun k hk hne=>?_
   rw[h3.block k (by simp;omega) hne];exact((Below.refl _ _).alloc (Nat.le_refl _) _).block k hk
def ItS(w:World)(r:Nat)(s:ByteArray)(pos:Nat):Prop:=w.heap[r]?=some (.stringIter s pos)
theorem ItS.made(w:World)(s:ByteArray):ItS (w.iter s 0) w.heap.size s 0:=World.iter_heap w s 0
theorem ItS.lt{w:World}{r:Nat}{s:ByteArray}{pos:Nat}(h:ItS w r s pos):r<w.heap.size:=(Array.getElem?_eq_some_iff.1 h).1
theorem ItS.bel{w w':World}{r:Nat}{s:ByteArray}{pos:Nat}(h:ItS w r s pos)(hb:Below w.heap.size w w'):ItS w' r s pos:=(hb.block r h.lt).trans h
theorem ItS.blk{w w':World}{r:Nat}{s:ByteArray}{pos:Nat}(h:ItS w r s pos)(hb:w'.heap[r]?=w.heap[r]?):ItS w' r s pos:=hb.trans h
theorem ItS.grown{w w':World}{r:Nat}{s:ByteArray}{pos:Nat}{row:Option Nat}(h:ItS w r s pos)(hg:w.grownBy w' row)(hne:some r≠row):ItS w' r s pos:=h.blk (hg.block r h.lt hne)
theorem ItS.ne{w:World}{r:Nat}{s:ByteArray}{pos B:Nat}{e:TypeId}{sz n:Nat}{v:Value}{cs:List Value}(h:ItS w r s pos)(ho:w.ownsRow B e sz v n cs):some r≠v.ownBlock:=by
 intro e1;rcases ho.2 with⟨rfl,_⟩|⟨g,cap,cur,rfl,_,hh,_⟩
 · simp[Value.ownBlock]at e1
 · simp only[Value.ownBlock,Option.some.injEq]at e1
   subst e1;unfold ItS at h;rw[hh]at h;simp at h
theorem ItS.pos{w:World}{r:Nat}{s:ByteArray}{pos:Nat}(h:ItS w r s pos):w.iterPos r=pos:=by unfold World.iterPos;rw[show w.heap[r]?=_ from h]
theorem jb5{w w':World}{B:Nat}{e:TypeId}{s:Nat}{v:Value}{n:Nat}{cs:List Value}(h:w.ownsRow B e s v n cs)(hb:∀k,v.ownBlock=some k→w'.heap[k]?=w.heap[k]?):w'.ownsRow B e s v n cs:=by
 refine⟨h.1,?_⟩;rcases h.2 with h'|⟨g,cap,cur,hv,hg,hh,r⟩
 · exact .inl h'
 · exact .inr ⟨g,cap,cur,hv,hg,(hb g (by rw[hv];rfl)).trans hh,r⟩
def itTo(w:World)(r:Nat)(s:ByteArray)(pos:Nat):World:={ w with heap:=w.heap.setIfInBounds r (.stringIter s pos) }
theorem itTo_it{w:World}{r:Nat}{s:ByteArray}{pos:Nat}(h:ItS w r s pos)(p':Nat):ItS (itTo w r s p') r s p':=by
 unfold ItS itTo;simp[h.lt]
theorem vj4(w:World)(r:Nat)(s:ByteArray)(pos:Nat):w.grownBy (itTo w r s pos) (some r):=
 ⟨rfl,rfl,rfl,by simp[itTo],fun k _ hk=>by unfold itTo;simp only;rw[Array.getElem?_setIfInBounds_ne (fun e=>hk (by rw[e]))]⟩
theorem kd3(hgd:o.guard=none)(x:Operand)(ho:o.op=.next x true)(w:World)(r:Nat)(s:ByteArray)(pos:Nat)(hx:a.eval x=.pointer (some ⟨r,0,none⟩))(hI:ItS w r s pos)
 (hend:s.size≤pos→wpList P ops Q rest (a.put o.dst (.tuple #[.bool false])) w)
 (hnext:pos<s.size→∀c k,dec ((bl s).drop pos)=(c,k)→wpList P ops Q rest (a.put o.dst (.tuple #[.bool true,.int .i64 (pos:Int),.int .i32 (c:Int)])) (itTo w r s (pos+k))):
 wpList P ops Q (o::rest) a w:=by
 refine wpList_plain hgd fun K hK=>?_
 have hI':w.heap[r]?=some (.stringIter s pos):=hI;by_cases h:pos<s.size
 · have hd:=kw4 (bl s) pos
   rw[js2]at hd;rcases hdd:dec ((bl s).drop pos)with⟨c,k⟩
   rw[hdd]at hd;have hrun:(Instr.next (.pointer (some ⟨r,0,none⟩)) true o.type).run P w=.ok (.tuple #[.bool true,.int .i64 (pos:Int),.int .i32 (c:Int)]) (itTo w r s (pos+k)):=by
    simp only[Instr.next,getObj,setObj,Sem.run_bind,Sem.run,hI',Result.andThen,h,if_true,hd];simp[goInt,itTo,hI',Sem.run]
   unfold Oper.wp execOp;simp[ho,hx,hrun,Result.andThen];exact hK _ _ (hnext h c k hdd)
 · have hrun:(Instr.next (.pointer (some ⟨r,0,none⟩)) true o.type).run P w=.ok (.tuple #[.bool false]) w:=by
    simp[Instr.next,getObj,Sem.run,hI',h]
   unfold Oper.wp execOp;simp[ho,hx,hrun,Result.andThen];exact hK _ _ (hend (by omega))
theorem jk6(hgd:o.guard=none)(x:Operand)(ho:o.op=.next x true)(w:World)(r:Nat)(s:ByteArray)(pos:Nat)(hx:a.eval x=.pointer (some ⟨r,0,none⟩))(hI:ItS w r s pos)(hle:s.size≤pos)
 (h:wpList P ops Q rest (a.put o.dst (.tuple #[.bool false])) w):wpList P ops Q (o::rest) a w:=
 kd3 hgd x ho w r s pos hx hI (fun _=>h) (fun hlt=>absurd hlt (by omega))
theorem jd8(hgd:o.guard=none)(x:Operand)(ho:o.op=.next x true)(w:World)(r:Nat)(s:ByteArray)(pos:Nat)(hx:a.eval x=.pointer (some ⟨r,0,none⟩))(hI:ItS w r s pos)(hlt:pos<s.size)(c k:Nat)(hd:Hid (dec ((bl s).drop pos)=(c,k)))
 (h:∀w',ItS w' r s (pos+k)→(∀j,j≠r→w'.heap[j]?=w.heap[j]?)→w.grownBy w' (some r)→wpList P ops Q rest (a.put o.dst (.tuple #[.bool true,.int .i64 (pos:Int),.int .i32 (c:Int)])) w'):wpList P ops Q (o::rest) a w:=
 kd3 hgd x ho w r s pos hx hI (fun h=>absurd hlt (by omega)) fun _ c' k' hd'=>by
  have e:=hd.out.symm.trans hd';simp only[Prod.mk.injEq]at e;obtain⟨rfl,rfl⟩:=e;exact h _ (itTo_it hI _) (fun j hj=>by unfold itTo;simp only;rw[Array.getElem?_setIfInBounds_ne (fun e=>hj e.symm)]) (vj4 _ _ _ _)
end
theorem vc3(a b c d:Int)(w:World):(Op.equalIn 10000 54 (.agg #[.int .i64 a,.int .i64 b]) (.agg #[.int .i64 c,.int .i64 d])).run Tryz.prog w=.ok (a==c&&b==d) w:=by
 have hS:Tryz.prog.underlying 54=some (.struct (Tryz.prog.fieldsOf 54)):=by kernel_rfl
 have hp:Tryz.prog.stoodInHeld 54=false:=by kernel_rfl
 rw[show(10000:Nat)=9999+1 from rfl,run_equalIn_agg w 9999 54 _ _ hS hp];simp only[Program.fieldsOf,Tryz.underlying54];simp[go_sem,Op.eqFields];by_cases h1:a=c<;>by_cases h2:b=d<;>simp[h1,h2]
theorem qc9(a b c d:Int)(w:World):(binOp .eql 54 (.agg #[.int .i64 a,.int .i64 b]) (.agg #[.int .i64 c,.int .i64 d])).run Tryz.prog w=.ok (.bool (a==c&&b==d)) w:=by
 rw[run_eql_struct,vc3];rfl
theorem jj6(op:BinOp)(x y:Operand)(xs ys:Array Value)(w:World):(eqGuard op 54 x y (.agg xs) (.agg ys)).run Tryz.prog w=.ok () w:=run_eqGuard_agg w op 54 x y xs ys (by kernel_rfl)
set_option maxRecDepth 100000 in
theorem bat_any(s:ByteArray)(k:Int)(w:World)(hs:s.size≤1000000)(hH:HexList (bl s))(hk0 : -100000≤k)(hk1:k≤1000000):
 Calls Tryz.prog 224 #[.string s,.int .i64 k] w fun e w'=>
  e=.returned (.tuple #[.int .i32 (atM (bl s) k).1,.bool (atM (bl s) k).2])∧w=w':=by
 have hL:=jb1 s;show Calls Tryz.prog 224 #[.string s,.int .i64 k] w fun e w'=>
  e=.returned (.tuple #[.int .i32 (if k<0∨((bl s).length/5:Nat)≤k then 0 else hexAt (bl s) k.toNat 4),.bool (!decide (k<0∨((bl s).length/5:Nat)≤k))])∧w=w'
 rw[hL];by_cases hb:k<0∨((s.size/5:Nat):Int)≤k
 · rw[if_pos hb,decide_eq_true hb]
   rcases hb with h|h
   · clear hL hH
     go_enter Tryz.func224,Tryz.ntmps224
     go_wp2
     go_ret2
     exact⟨rfl,rfl⟩
   · have hq:(s.size:Int)/5≤k:=by omega
     have h0:0≤k:=by omega
     clear hL hH h
     go_enter Tryz.func224,Tryz.ntmps224
     go_wp2
     go_ret2
     exact⟨rfl,rfl⟩
 · rw[if_neg hb,decide_eq_false hb]
   obtain⟨k,rfl⟩:=Int.eq_ofNat_of_zero_le (show 0≤k from by omega);have hq:(k:Int)<(s.size:Int)/5:=by omega
   rw[Int.toNat_natCast];have HH:=Lib.hid hH;have HL:=Lib.hid hL;clear hH hb hk0 hL
   go_enter Tryz.func224,Tryz.ntmps224
   go_wp2
   go_loop [6,7] (fun p i=>∃j:Nat,j≤4∧i=.int .i64 ((k:Int)*5+j)∧p=.int .i32 (hexAt (bl s) k j)) (fun _ i=>(k*5+4-intOf i).toNat)
   case atStart=>exact⟨0,by omega,by simp,rfl⟩
   case round=>
    obtain⟨j,hj,rfl,rfl⟩:=hrel;by_cases hlt:j<4
    · have hlen:k*5+j<s.size:=by omega
      obtain⟨h0,h1⟩:=kh2 (bl s) k j HH.out (by rw[HL.out];omega) hj;have h2:(16:Int)^j≤4096:=by
       match j,hlt with
       | 0,_=>decide
       | 1,_=>decide
       | 2,_=>decide
       | 3,_=>decide
      have h3:hexAt (bl s) k j<4096:=by omega
      obtain⟨d0,d1⟩:=HH.out k j (by rw[HL.out];omega) hlt;have hs1:hexAt (bl s) k (j+1)=hexAt (bl s) k j*16+hexv ((bl s).getD (k*5+j) 0):=rfl;have hx:AtB s (k*5+j) ((bl s).getD (k*5+j) 0):=by
       apply jc7;have hlen':k*5+j<(bl s).length:=by rw[HL.out];exact hlen
       rw[List.getD_eq_getElem?_getD,List.getElem?_eq_getElem hlen'];rfl
      generalize (bl s).getD (k*5+j) 0=c at *;have c1:=fun w=>kd8 c w
      have X:∀h,s[k*5+j]'h=c:=hx;generalize hexAt (bl s) k j=p at *;generalize hexv c=d at *;have e1:bits .or .i32 (p*16) d=p*16+d:=qt0 _ _ (by omega) (by omega) (by omega) (by omega) (by omega);have C1:=Lib.hid c1;have HS:=Lib.hid hs1;have HX:=Lib.hid hx;clear c1 hs1 h1 h2 hx
      go_wp2_with (go_at_call 215;with_reducible refine(C1.out _).mono ?_;rintro e w' ⟨rfl,rfl⟩)
      go_round
      case rel=>exact⟨j+1,by omega,by go_num,by rw[HS.out]⟩
      case measure=>simp[intOf];omega
    · have hj4:j=4:=by omega
      subst hj4
      go_wp2
      go_ret2
      exact⟨rfl,rfl⟩
def b5cell(s:Int):Int:=if 64≤s∧s≤126 then s-64 else if 161≤s∧s≤254 then s-161+63 else -1
def bsecond(c:Int):Int:=if c<63 then 64+c else 161+c-63
theorem kd1(s:Int)(w:World)(h0 : -1000≤s)(h1:s≤1000):
 Calls Tryz.prog 203 #[.int .i64 s] w fun e w'=>e=.returned (.int .i64 (b5cell s))∧w=w':=by
 go_enter Tryz.func203,Tryz.ntmps203
 go_wp2
 all_goals go_ret
 all_goals (refine⟨jr2 ?_,rfl⟩;unfold b5cell;omega)
theorem qv7(s:Int)(w:World)(h0 : -1000≤s)(h1:s≤1000):
 Calls Tryz.prog 202 #[.int .i64 s] w fun e w'=>e=.returned (.int .i64 (bsecond s))∧w=w':=by
 go_enter Tryz.func202,Tryz.ntmps202
 go_wp2
 all_goals go_ret
 all_goals (refine⟨jr2 ?_,rfl⟩;unfold bsecond;omega)
theorem qn9(l s:Int)(w:World)(h0:0≤l)(h1:l≤255)(h2:0≤s)(h3:s≤255):
 Calls Tryz.prog 199 #[.int .i64 l,.int .i64 s] w fun e w'=>e=.returned (.string ⟨(bigL (l*256+s) 2).toArray⟩)∧Below w.heap.size w w':=by
 have e1:bits .or .i64 (l*256) s=l*256+s:=jw3 _ _ (by omega) (by omega) (by omega) (by omega) (by omega);have c1:=fun w=>jh8 (l*256+s) 2 w (by omega) (by omega)
 rw[show widthOf 2=2 from by decide]at c1;have C1:=Lib.hid c1;clear c1
 go_enter Tryz.func199,Tryz.ntmps199
 go_wp2_with (go_at_call 91;refine(C1.out _).mono ?_;rintro e w' ⟨rfl,hb⟩)
 go_ret
 exact⟨rfl,hb⟩
def strOfB(o:Oper):ByteArray:=match o.op with
 | .build _ fs=>match fs.toList with
  | [_,_,(_,Operand.const (.string s))]=>s
  | _=>ByteArray.empty
 | _=>ByteArray.empty
def codeOf(f:Func):Code:=match f.body with
 | some c=>c
 | none=>.skip
def buildAt(f:Func)(region op:Nat):ByteArray:=match regionOps (codeOf f) region with
 | some ops=>match ops[op]? with|some o=>strOfB o|none=>ByteArray.empty
 | none=>ByteArray.empty
def subO(t:ByteArray):Operand→Operand
 | .const (.string _)=>.const (.string t)
 | x=>x
def subF(t:ByteArray):List (Nat×Operand)→List (Nat×Operand)
 | []=>[]
 | (i,x)::l=>(i,subO t x)::subF t l
def subP(t:ByteArray):Op→Op
 | .build ty fs=>.build ty (subF t fs.toList).toArray
 | x=>x
def subOps(S:Nat→ByteArray):Nat→List Oper→List Oper
 | _,[]=>[]
 | n,o::l=>{ o with op:=subP (S n) o.op }::subOps S (n+1) l
def subCode(S:Nat→ByteArray):Code→Code
 | .region i ops b=>.region i (subOps S 0 ops.toList).toArray b
 | .seq a b=>.seq (subCode S a) (subCode S b)
 | c=>c
noncomputable def bStr(i:Nat):ByteArray:=buildAt Tryz.f200 1 i
theorem vf0:Tryz.f200.body=some (subCode bStr (codeOf Tryz.f200)):=by kernel_rfl
section
variable {P:Program} {ops:Array Oper} {rest:List Oper} {o:Oper} {a:Act} {Q:Exit→Act→World→Prop} {w:World}
theorem wpB(hg:o.guard=none)(t:TypeId)(parts:Array (Nat×Operand))(ho:o.op=.build t parts)(vals:List (Nat×Value))(hv:(parts.map fun(i,x)=>(i,a.eval x)).toList=vals)
 (cells:Array Value) (hb:P.built t vals=some cells) (h:wpList P ops Q rest (a.put o.dst (.agg cells)) w):wpList P ops Q (o::rest) a w:=by
 refine wpList_build hg t parts ho (by rw[hv,hb];rfl) ?_;rw[hv,hb];exact h
end
def bSpansOf(S:Nat→ByteArray):List (Int×Int×ByteArray):=
 [(136,86,S 0),(136,99,S 1),(136,101,S 2),(136,117,S 3),(136,161,S 4),(136,164,S 5),(136,166,S 6),(161,64,S 7),(163,64,S 8),(164,64,S 9),(165,64,S 10)]
def bSpanArr(S:Nat→ByteArray):Array Value:=((bSpansOf S).flatMap fun s=>[.int .i64 s.1,.int .i64 s.2.1,.string s.2.2]).toArray
theorem xd2:(Tryz.prog.info? 256).map (·.size)=some 33:=by kernel_rfl
set_option maxRecDepth 100000 in
theorem kw9(w:World):
 Calls Tryz.prog 200 #[] w fun e w'=>e=.returned (.agg (bSpanArr bStr))∧Below w.heap.size w w':=by
 have hc:=vf0;generalize bStr=S at *;refine calls_of_wp Tryz.func200 hc ?_;clear hc
 conv=>arg 2;simp only[codeOf,Tryz.f200,subCode,subOps,subP,subF,subO,List.toList_toArray,Nat.zero_add,Nat.reduceAdd]
 have hA:bSpanArr S=#[.int .i64 136,.int .i64 86,.string (S 0),.int .i64 136,.int .i64 99,.string (S 1),.int .i64 136,.int .i64 101,.string (S 2),.int .i64 136,.int .i64 117,.string (S 3),
  .int .i64 136,.int .i64 161,.string (S 4),.int .i64 136,.int .i64 164,.string (S 5),.int .i64 136,.int .i64 166,.string (S 6),.int .i64 161,.int .i64 64,.string (S 7),
  .int .i64 163,.int .i64 64,.string (S 8),.int .i64 164,.int .i64 64,.string (S 9),.int .i64 165,.int .i64 64,.string (S 10)]:=rfl
 generalize S 0=s0 at *;generalize S 1=s1 at *;generalize S 2=s2 at *;generalize S 3=s3 at *;generalize S 4=s4 at *;generalize S 5=s5 at *;generalize S 6=s6 at *;generalize S 7=s7 at *;generalize S 8=s8 at *;generalize S 9=s9 at *;generalize S 10=s10 at *;obtain⟨arr,harr⟩:∃arr,arr=bSpanArr S:=⟨_,rfl⟩;rw[←harr];rw[hA]at harr;have hsz:arr.size=33:=by rw[harr];rfl
 have hone:arr.all (·.oneCell')=true:=by rw[harr];as_aux_lemma=>kernel_rfl
 have hinf:(Tryz.prog.info? 256).map (·.size)=some arr.size:=by rw[hsz];exact xd2
 have HR:=Lib.hid harr;have HO:=Lib.hid hone;have HI:=Lib.hid hinf;have HZ:=Lib.hid hsz;clear hA harr hone hinf hsz;simp only[Tryz.ntmps200,List.size_toArray,List.length_cons,List.length_nil,Nat.reduceAdd,Nat.reduceSub,Array.replicate_succ,Array.replicate_zero,List.push_toArray,List.append_toArray,List.nil_append,List.cons_append];apply wp_seq_k;intro K0 hK0;have HK0:=Lib.hid hK0;clear hK0
 go_wp2_with fail
 refine HK0.out _ _ ?_;clear HK0;apply wp_seq_k;intro K1 hK1;have HK1:=Lib.hid hK1;clear hK1 K0;apply wp_region_lit;refine wpB rfl _ _ rfl _ rfl #[.int .i64 136,.int .i64 86,.string s0] (by as_aux_lemma=>kernel_rfl) ?_;refine wpB rfl _ _ rfl _ rfl #[.int .i64 136,.int .i64 99,.string s1] (by as_aux_lemma=>kernel_rfl) ?_;refine wpB rfl _ _ rfl _ rfl #[.int .i64 136,.int .i64 101,.string s2] (by as_aux_lemma=>kernel_rfl) ?_;refine wpB rfl _ _ rfl _ rfl #[.int .i64 136,.int .i64 117,.string s3] (by as_aux_lemma=>kernel_rfl) ?_;refine wpB rfl _ _ rfl _ rfl #[.int .i64 136,.int .i64 161,.string s4] (by as_aux_lemma=>kernel_rfl) ?_;refine wpB rfl _ _ rfl _ rfl #[.int .i64 136,.int .i64 164,.string s5] (by as_aux_lemma=>kernel_rfl) ?_;refine wpB rfl _ _ rfl _ rfl #[.int .i64 136,.int .i64 166,.string s6] (by as_aux_lemma=>kernel_rfl) ?_;refine wpB rfl _ _ rfl _ rfl #[.int .i64 161,.int .i64 64,.string s7] (by as_aux_lemma=>kernel_rfl) ?_;refine wpB rfl _ _ rfl _ rfl #[.int .i64 163,.int .i64 64,.string s8] (by as_aux_lemma=>kernel_rfl) ?_;refine wpB rfl _ _ rfl _ rfl #[.int .i64 164,.int .i64 64,.string s9] (by as_aux_lemma=>kernel_rfl) ?_;refine wpB rfl _ _ rfl _ rfl #[.int .i64 165,.int .i64 64,.string s10] (by as_aux_lemma=>kernel_rfl) ?_;refine wpB rfl _ _ rfl _ rfl arr (by rw[HR.out];as_aux_lemma=>kernel_rfl) ?_;refine Go.wpList_store_row rfl 256 _ _ rfl w.heap.size arr (by as_aux_lemma=>kernel_rfl) (by as_aux_lemma=>kernel_rfl) 256 _ (heap_alloc_new _ _) HI.out (by rw[HZ.out];as_aux_lemma=>kernel_rfl) HO.out ?_;apply wpList_nil;refine HK1.out _ _ ?_;clear HK1 K1;apply wp_ret;refine bodyPost_ret (results_cell_row rfl _ _ w.heap.size 256 arr (0,0) _ (by as_aux_lemma=>kernel_rfl) (setRow_heap _ _ _ _ _ _ (heap_alloc_new _ _)) Tryz.underlying256 rfl HI.out) rfl ⟨?_,?_⟩
 · rfl
 · exact kf2 ((Below.refl _ _).alloc (Nat.le_refl _) _) _ (Nat.le_refl _) _
noncomputable def bSpans:List (Int×Int×ByteArray):=bSpansOf bStr
theorem jv4:bSpans.length=11:=rfl
theorem kp7(S:Nat→ByteArray)(i:Nat)(s:Int×Int×ByteArray)(h:(bSpansOf S)[i]?=some s):
 (bSpanArr S).extract (i*3) (i*3+3)=#[.int .i64 s.1,.int .i64 s.2.1,.string s.2.2]:=by
 have hi:i<11:=by
  have:=(List.getElem?_eq_some_iff.1 h).1;exact this
 match i,hi,h with
 | 0,_,h=>cases h;rfl
 | 1,_,h=>cases h;rfl
 | 2,_,h=>cases h;rfl
 | 3,_,h=>cases h;rfl
 | 4,_,h=>cases h;rfl
 | 5,_,h=>cases h;rfl
 | 6,_,h=>cases h;rfl
 | 7,_,h=>cases h;rfl
 | 8,_,h=>cases h;rfl
 | 9,_,h=>cases h;rfl
 | 10,_,h=>cases h;rfl
def hexLin:List UInt8→Nat→Bool
 | [],_=>true
 | b::l,p=>(decide (p=4) || (decide (0≤hexv b)&&decide (hexv b≤15)))&&hexLin l (if p=4 then 0 else p+1)
theorem xd5(l:List UInt8):∀p i,p<5→hexLin l p=true→i<l.length→(p+i)%5≠4→0≤hexv (l.getD i 0)∧hexv (l.getD i 0)≤15:=by
 induction l with
 | nil=>intro p i _ _ h;simp at h
 | cons b l ih=>
  intro p i hp h hi hm;rw[hexLin,Bool.and_eq_true,Bool.or_eq_true,Bool.and_eq_true,decide_eq_true_eq,decide_eq_true_eq,decide_eq_true_eq]at h;cases i with
  | zero=>rcases h.1 with h'|h'
          · omega
          · exact h'
  | succ i=>
   have:=ih (if p=4 then 0 else p+1) i (by split<;>omega) h.2 (by simpa using hi) (by split<;>omega);simpa using this
theorem kn4(l:List UInt8)(h:hexLin l 0=true):HexList l:=fun k j hk hj=>xd5 l 0 (k*5+j) (by omega) h hk (by omega)
theorem bStr_ok:∀i:Fin 11,(bStr i.val).size≤1000∧hexLin (bl (bStr i.val)) 0=true:=by decide +kernel
theorem qv9(S:Nat→ByteArray)(k:∀i,i<11→(S i).size≤1000∧hexLin (bl (S i)) 0=true)(s:Int×Int×ByteArray)(h:s∈bSpansOf S):
 (0≤s.1∧s.1≤255∧0≤s.2.1∧s.2.1≤255∧s.2.2.size≤1000)∧HexList (bl s.2.2):=by
 simp only[bSpansOf,List.mem_cons,List.not_mem_nil,or_false]at h;rcases h with h|h|h|h|h|h|h|h|h|h|h
 all_goals subst h
 all_goals refine⟨⟨by simp,by simp,by simp,by simp,(k _ ?_).1⟩,kn4 _ (k _ ?_).2⟩
 all_goals omega
theorem qp0(s:Int×Int×ByteArray)(h:s∈bSpans):(0≤s.1∧s.1≤255∧0≤s.2.1∧s.2.1≤255∧s.2.2.size≤1000)∧HexList (bl s.2.2):=
 qv9 bStr (fun i hi=>bStr_ok ⟨i,hi⟩) s h
def oneL:List (Int×Int×ByteArray)→Int→Int→Int×Bool
 | [],_,_=>(0,false)
 | s::l,lead,c=>if s.1=lead then(if(atM (bl s.2.2) (c-b5cell s.2.1)).2=true then((atM (bl s.2.2) (c-b5cell s.2.1)).1,true)else oneL l lead c)else oneL l lead c
noncomputable def oneM(lead second:Int):Int×Bool:=if b5cell second<0 then(0,false)else oneL bSpans lead (b5cell second)
theorem qp2(s:Int) : -1≤b5cell s∧b5cell s≤156:=by unfold b5cell;omega
set_option maxRecDepth 100000 in
theorem one_any(lead second:Int)(w:World)(h0:0≤lead)(h1:lead≤255)(h2:0≤second)(h3:second≤255):
 Calls Tryz.prog 197 #[.int .i64 lead,.int .i64 second] w fun e w'=>e=.returned (.tuple #[.int .i32 (oneM lead second).1,.bool (oneM lead second).2])∧Below w.heap.size w w':=by
 have c1:=fun w=>kd1 second w (by omega) (by omega)
 have hm:oneM lead second=if b5cell second<0 then(0,false)else oneL bSpans lead (b5cell second):=rfl
 obtain⟨c0,cm⟩:=qp2 second;generalize b5cell second=c at *;generalize oneM lead second=R at *;have C1:=Lib.hid c1;have HM:=Lib.hid hm;clear c1 hm;by_cases hc:c<0
 · have hc':c = -1:=by omega
   subst hc'
   go_enter Tryz.func197,Tryz.ntmps197
   go_wp2_with (go_at_call 203;with_reducible refine(C1.out _).mono ?_;rintro e w1 ⟨rfl,rfl⟩)
   go_ret2
   exact⟨by rw[HM.out];rfl,Below.refl _ _⟩
 · have hm2:=HM.out
   rw[if_neg hc]at hm2;have HM2:=Lib.hid hm2;clear hm2 HM
   go_enter Tryz.func197,Tryz.ntmps197
   go_wp2_with (first
    | (go_at_call 203;with_reducible refine(C1.out _).mono ?_;rintro e w1 ⟨rfl,rfl⟩)
    | (go_at_call 200;refine(kw9 _).mono ?_;rintro e W ⟨rfl,hb⟩))
   obtain⟨A,hA⟩:∃A,A=bSpanArr bStr:=⟨_,rfl⟩;rw[←hA];have HA:=Lib.hid hA;clear hA
   go_loopw [16] (fun t wr=>∃i:Nat,t=.int .i64 (i:Int)∧i≤11∧Hid (R=oneL (bSpans.drop i) lead c)∧Below W.heap.size W wr) (fun t _=>(11-intOf t).toNat)
   case atStart=>exact⟨0,rfl,by omega,HM2,Below.refl _ _⟩
   case round=>
    obtain⟨i,rfl,hi,hR,hbel⟩:=hrel;have hbw:=hb.trans (hbel.mono hb.size);by_cases hlt:i<11
    · obtain⟨s,hs⟩:=jb6 bSpans i (by rw[jv4];exact hlt)
      obtain⟨hbd,hH⟩:=qp0 s (List.mem_of_getElem? hs);have hx:=kp7 bStr i s hs;rw[←HA.out]at hx;have hr:=hR.out;rw[jd1 bSpans i (List.getElem?_eq_some_iff.1 hs).1,(List.getElem?_eq_some_iff.1 hs).2]at hr;obtain⟨a,b,q⟩:=s;simp only at hbd hH hx;rw[oneL]at hr;simp only at hr;obtain⟨a0,a1,b0,b1,q1⟩:=hbd;obtain⟨d0,d1⟩:=qp2 b;have c2:=fun w=>kd1 b w (by omega) (by omega)
      have c3:=fun w=>bat_any q (c-b5cell b) w (by omega) hH (by omega) (by omega)
      generalize b5cell b=d at *;generalize atM (bl q) (c-d)=p at *;obtain⟨p1,p2⟩:=p;simp only at hr c3;have HX:=Lib.hid hx;have C2:=Lib.hid c2;have C3:=Lib.hid c3;have HR:=Lib.hid hr;clear hx c2 c3 hr hs hH;by_cases ha:a=lead
      · subst ha
        have hr:=HR.out;rw[if_pos rfl]at hr;by_cases hp:p2=true
        · rw[if_pos hp]at hr
          have HR2:=Lib.hid hr;subst hp;clear hr HR
          go_wp2_with (refine jc6 rfl 256 _ _ rfl 11 255 Tryz.underlying256 _ Tryz.underlying255 rfl 3 (by kernel_rfl) A rfl .i64 i rfl (by omega) _ HX.out ?_)
          go_quiet (first
           | (go_at_call 203;exact Calls.quiet_of_same ((C2.out _).mono fun e w' h=>⟨h.1,h.2.symm⟩))
           | (go_at_call 224;exact Calls.quiet_of_same ((C3.out _).mono fun e w' h=>⟨h.1,h.2.symm⟩)))
          go_wp2_with fail
          go_ret2
          exact⟨by rw[HR2.out];rfl,bdnB (hbw.alloc (by have:=hbw.size;omega) _) _⟩
        · rw[if_neg hp]at hr
          have HR2:=Lib.hid hr;have hp':p2=false:=by simpa using hp
          subst hp';clear hr HR hp
          go_wp2_with (refine jc6 rfl 256 _ _ rfl 11 255 Tryz.underlying256 _ Tryz.underlying255 rfl 3 (by kernel_rfl) A rfl .i64 i rfl (by omega) _ HX.out ?_)
          go_quiet (first
           | (go_at_call 203;exact Calls.quiet_of_same ((C2.out _).mono fun e w' h=>⟨h.1,h.2.symm⟩))
           | (go_at_call 224;exact Calls.quiet_of_same ((C3.out _).mono fun e w' h=>⟨h.1,h.2.symm⟩)))
          go_wp2_with fail
          go_roundw
          case rel=>exact⟨i+1,by go_num,by omega,HR2,bdnB (hbel.alloc hbel.size _) _⟩
          case measure=>simp[intOf];omega
      · have hr:=HR.out
        rw[if_neg ha]at hr;have HR2:=Lib.hid hr;have ha':(a==lead)=false:=by simpa using ha
        clear hr HR ha
        go_wp2_with (refine jc6 rfl 256 _ _ rfl 11 255 Tryz.underlying256 _ Tryz.underlying255 rfl 3 (by kernel_rfl) A rfl .i64 i rfl (by omega) _ HX.out ?_)
        go_roundw
        case rel=>exact⟨i+1,by go_num,by omega,HR2,hbel.alloc hbel.size _⟩
        case measure=>simp[intOf];omega
    · have hi11:i=11:=by omega
      subst hi11;have hr:=hR.out;rw[List.drop_of_length_le (by rw[jv4];exact Nat.le_refl _),oneL]at hr;have HR2:=Lib.hid hr;clear hr hR
      go_wp2_with fail
      go_ret2
      exact⟨by rw[HR2.out];rfl,hbw⟩
def bTwos:List (Int×Int×Int):=[(98,202,772),(100,202,780),(163,234,772),(165,234,780)]
def bTwoArr:Array Value:=(bTwos.flatMap fun s=>[.int .i64 s.1,.int .i32 s.2.1,.int .i32 s.2.2]).toArray
theorem infoTwos:(Tryz.prog.info? 251).map (·.size)=some 12:=by kernel_rfl
set_option maxRecDepth 100000 in
theorem qn8(w:World):
 Calls Tryz.prog 198 #[] w fun e w'=>e=.returned (.agg bTwoArr)∧Below w.heap.size w w':=by
 go_enter Tryz.func198,Tryz.ntmps198
 go_wp2_with fail
 refine bodyPost_ret (results_cell_row rfl _ _ w.heap.size 251 bTwoArr (0,0) _ rfl (heap_alloc_new _ _) Tryz.underlying251 rfl infoTwos) rfl ⟨rfl,(Below.refl _ _).alloc (Nat.le_refl _) _⟩
end Go.Proofs.YtagjkmkmphamoaaGreatDoor
