/- B3 -/
import Derived.Test.YtagjkmkmphamoaaGreatDoorPB2
import Derived.Test.YtagjkmkmphamoaaGreatDoorPShelf
import Derived.Test.YtagjkmkmphamoaaGreatDoorPB0
set_option linter.all false
set_option maxHeartbeats 8000000
namespace Go.Proofs.YtagjkmkmphamoaaGreatDoor
open Go.RowKit
theorem vt6:Builder.Extra Tryz.prog Tryz.copies_ren where
 sizeBuilder:=by kernel_rfl
 liesBuilder:=by kernel_rfl
 t5:=Tryz.copies.t5
 a5:=Tryz.copies.a5
 z5:=Tryz.copies.z5
 v5:=Tryz.copies.v5
 infoByte:=by kernel_rfl
 cellsByte:=by kernel_rfl
 sizeByte:=by kernel_rfl
 neB5:=by decide
theorem rep_any(c:Nat)(w:World)(hc:c≤1073741824):Calls Tryz.prog 97 #[.string ⟨#[255]⟩,.int .i64 c] w fun e w'=>e=.returned (.string ⟨(List.replicate c (255:UInt8)).toArray⟩)∧Below w.heap.size w w':=by
 have h:=Any.strings_Repeat Tryz.copies vt6 ⟨#[255]⟩ c w (by omega) (by show 1*c≤_;omega);have e:Lib.repeatL (ByteArray.mk #[255]).data.toList c=List.replicate c (255:UInt8):=by
  have:=Lib.repeatL_replicate 255 1 c;rw[Nat.mul_one]at this;exact this
 rw[e]at h;exact h
theorem vk0(s:ByteArray)(w:World)(hs:s.size≤1073741824):Calls Tryz.prog 60 #[.string s] w fun e w'=>e=.returned (.int .i64 (totL (bl s)))∧w=w':=by
 have HL:Hid ((bl s).length=s.size):=jb1 s
 go_enter Tryz.func60,Tryz.ntmps60
 go_wp2_with fail
 go_loop [3,7] (fun nv iv=>∃k:Nat,nv=.int .i64 ((totL ((bl s).take k):Nat):Int)∧iv=.int .i64 (k:Int)∧k≤s.size) (fun _ iv=>s.size-(intOf iv).toNat)
 case atStart=>exact⟨0,by simp[totL],rfl,Nat.zero_le _⟩
 case round=>
  obtain⟨k,rfl,rfl,hk⟩:=hrel;by_cases hlt:k<s.size
  · obtain⟨b,hb⟩:=jb6 (bl s) k (by rw[HL.out];exact hlt)
    have X:∀h,s[k]'h=b:=jc7 s k b hb;have hst:=jr7 (bl s) k b hb;have hle:=jf1 ((bl s).take k);rw[List.length_take]at hle;have hbl:=b.toNat_lt;generalize totL ((bl s).take k)=t at *;have HST:=Lib.hid hst;have j0:(0:Int)≤(k:Int):=by omega
    have j1:(k:Int)<(s.size:Int):=by omega
    have ht:t≤300000000000:=by omega
    have hwr:IntKind.i64.wrap ((t:Int)+b.toNat)=(t:Int)+b.toNat:=wi64 _ (by omega) (by omega);clear hst hb hle
    go_wp2_with fail
    go_round
    case rel=>exact⟨k+1,by rw[HST.out,Int.natCast_add],by go_num,by omega⟩
    case measure=>simp[intOf];omega
  · have hx:totL ((bl s).take k)=totL (bl s):=by rw[List.take_of_length_le (by rw[HL.out];omega)]
    rw[hx];have m1:¬(k:Int)<(s.size:Int):=by omega
    clear hx
    go_wp2_with fail
    go_ret
    exact⟨rfl,rfl⟩
set_option maxRecDepth 100000 in
theorem qm2(n:Nat)(w:World)(hn:n≤1073741824):Calls Tryz.prog 59 #[.int .i64 n] w fun e w'=>e=.returned (.string ⟨(laceL n).toArray⟩)∧Below w.heap.size w w':=by
 have k1:=fun w=>rep_any (n/255) w (by omega)
 have k2:=fun w=>jh8 ((n%255:Nat):Int) 1 w (by omega) (by omega)
 rw[big_1]at k2;have hR:(⟨(laceL n).toArray⟩:ByteArray)=(⟨(List.replicate (n/255) (255:UInt8)).toArray⟩:ByteArray)++⟨#[UInt8.ofNat (n%255)]⟩:=by
  unfold laceL;apply ByteArray.ext;apply Array.ext';simp
 rw[hR];have hAs:(⟨(List.replicate (n/255) (255:UInt8)).toArray⟩:ByteArray).size=n/255:=by rw[szL,List.length_replicate]
 have hBs:(⟨#[UInt8.ofNat (n%255)]⟩:ByteArray).size=1:=rfl;generalize (⟨(List.replicate (n/255) (255:UInt8)).toArray⟩:ByteArray)=A at *;generalize (⟨#[UInt8.ofNat (n%255)]⟩:ByteArray)=B at *;obtain⟨m,hm⟩:∃m,m=n/255:=⟨_,rfl⟩;obtain⟨k,hk⟩:∃k,k=n%255:=⟨_,rfl⟩;rw[←hm]at k1;rw[←hk]at k2;have q1:(n:Int)/255=(m:Int):=by omega
 have q2:(n:Int)%255=(k:Int):=by omega
 have q6:(n:Int).tdiv 255=(m:Int):=by rw[Int.tdiv_eq_ediv_of_nonneg (by omega)];exact q1
 have q7:(n:Int).tmod 255=(k:Int):=by rw[Int.tmod_eq_emod_of_nonneg (by omega)];exact q2
 have q3:¬(m:Int) ≥ 2147483647:=by omega
 have q4:¬(n:Int)<0:=by omega
 have q5:¬(0:Int) > (n:Int):=by omega
 have q8:IntKind.i64.wrap (m:Int)=m:=wi64 _ (by omega) (by omega);have q9:IntKind.u64.wrap (k:Int)=k:=by rw[IntKind.wrap_u64];omega
 have hAB:¬9223372036854775807<A.size+B.size:=by omega
 clear hm hk q6 q7 hAs hBs;clear hR;have K1:=Lib.hid k1;have K2:=Lib.hid k2;clear k1 k2
 go_enter Tryz.func59,Tryz.ntmps59
 go_wp2_with (first
  | (go_at_call 97;(with_reducible refine(K1.out _).mono ?_);rintro e1 w1 ⟨rfl,hb1⟩)
  | (go_at_call 91;(with_reducible refine(K2.out _).mono ?_);rintro e2 w2 ⟨rfl,hb2⟩)
  | fail)
 go_ret
 exact⟨rfl,bt hb1 hb2⟩
theorem qm3(l:List PG)(i:Nat)(p:PG)(h:l[i]?=some p)(j:Nat)(v:Value)(hj:(g1cells p)[j]?=some v):(gcells l)[i*6+j]?=some v:=by
 have hj6:j<6:=(List.getElem?_eq_some_iff.1 hj).1
 induction l generalizing i with
 | nil=>simp at h
 | cons q r ih=>
  have hl:(g1cells q).length=6:=rfl;unfold gcells;rw[List.flatMap_cons];cases i with
  | zero=>
   simp only[List.getElem?_cons_zero,Option.some.injEq]at h;subst h;rw[Nat.zero_mul,Nat.zero_add,List.getElem?_append_left (by rw[hl];exact hj6)];exact hj
  | succ i=>
   rw[List.getElem?_append_right (by rw[hl];omega),hl,show(i+1)*6+j-6=i*6+j by omega];exact ih i (by simpa using h)
theorem jf0(l:List PG):(gcells l).length=l.length*6:=by
 induction l with
 | nil=>rfl
 | cons q r ih=>
  unfold gcells at ih ⊢;rw[List.flatMap_cons,List.length_append,ih,List.length_cons,show(g1cells q).length=6 from rfl];omega
theorem g_at{w:World}{av:Option Addr}{l:List PG}(hc:∀(j:Nat) (x:Value),(gcells l)[j]?=some x→∃g o,av=some ⟨g,o,none⟩∧w.cell? ⟨g,o+j,none⟩=some x)(k:Nat)(p:PG)(hk:l[k]?=some p):
 ∃g o,av=some ⟨g,o,none⟩∧w.cell? ⟨g,o+k*6,none⟩=some (.int .u8 p.fl.toNat)∧w.cell? ⟨g,o+k*6+1,none⟩=some (.int .u64 p.po)∧w.cell? ⟨g,o+k*6+2,none⟩=some (.int .u32 p.se)∧w.cell? ⟨g,o+k*6+3,none⟩=some (.int .u32 p.nu)∧w.cell? ⟨g,o+k*6+4,none⟩=some (.string p.la)∧w.cell? ⟨g,o+k*6+5,none⟩=some (.string p.bo):=by
 have hx:∀(j:Nat) (v:Value),(g1cells p)[j]?=some v→∃g o,av=some ⟨g,o,none⟩∧w.cell? ⟨g,o+(k*6+j),none⟩=some v:=fun j v hj=>hc _ _ (qm3 l k p hk j v hj)
 obtain⟨g,o,rfl,c0⟩:=hx 0 _ rfl;have hy:∀(j:Nat) (v:Value),(g1cells p)[j]?=some v→w.cell? ⟨g,o+k*6+j,none⟩=some v:=by
  intro j v hj;obtain⟨g',o',e,c⟩:=hx j v hj;simp only[Option.some.injEq,Addr.mk.injEq,and_true]at e;obtain⟨rfl,rfl⟩:=e;rw[Nat.add_assoc];exact c
 exact⟨g,o,rfl,hy 0 _ rfl,hy 1 _ rfl,hy 2 _ rfl,hy 3 _ rfl,hy 4 _ rfl,hy 5 _ rfl⟩
theorem row_g{w:World}{av:Option Addr}{n cap:Nat}{l:List PG}(h:Row w (.slice av n cap) n (gcells l)):∀(j:Nat) (x:Value),(gcells l)[j]?=some x→∃g o,av=some ⟨g,o,none⟩∧w.cell? ⟨g,o+j,none⟩=some x:=by
 obtain⟨a,c,h1,h2⟩:=h;simp only[Value.slice.injEq]at h1;obtain⟨rfl,_,_⟩:=h1;exact h2
def toB(l:List UInt8):ByteArray:=⟨l.toArray⟩
theorem jf5(l:List UInt8):bl (toB l)=l:=blL l
theorem szB(l:List UInt8):(toB l).size=l.length:=szL l
theorem qf2(s:ByteArray):toB (bl s)=s:=by
 apply ByteArray.ext;apply Array.ext';simp[toB,bl]
def partJ(B:List UInt8)(fr tz:Nat)(pt:List ByteArray):List UInt8:=(pt.map bl).flatten++(B.drop fr).take (tz-fr)
def jrel(L B:List UInt8)(k fr tz:Nat)(ps:List (List UInt8))(pt:List ByteArray)(op:Bool)(P1:List (List UInt8))(part1:List UInt8)(op1:Bool):Prop:=
 ps++(cutG (L.drop k) (B.drop tz) (partJ B fr tz pt)).1=P1∧(cutG (L.drop k) (B.drop tz) (partJ B fr tz pt)).2=part1∧openL op (L.drop k)=op1
theorem ks9(B:List UInt8)(fr tz c:Nat)(pt:List ByteArray)(h:fr≤tz):partJ B fr tz pt++(B.drop tz).take c=partJ B fr (tz+c) pt:=by
 unfold partJ;rw[List.append_assoc,show tz+c-fr=(tz-fr)+c by omega,List.take_add,List.drop_drop,show fr+(tz-fr)=tz by omega]
theorem qh5(op:Bool)(c:UInt8)(r:List UInt8):openL op (c::r)=openL (c==255) r:=by
 have:=jg5 op [c] r;rw[List.cons_append,List.nil_append]at this;rw[←this]
 rfl
theorem xc5{L B:List UInt8}{k fr tz:Nat}{ps:List (List UInt8)}{pt:List ByteArray}{op:Bool}{P1:List (List UInt8)}{part1:List UInt8}{op1:Bool}
 (h:jrel L B k fr tz ps pt op P1 part1 op1) (hft:fr≤tz) (hk:L[k]?=some 255):jrel L B (k+1) fr (tz+255) ps pt true P1 part1 op1:=by
 obtain⟨h1,h2,h3⟩:=h;obtain⟨hc1,hc2⟩:=List.getElem?_eq_some_iff.1 hk;rw[List.drop_eq_getElem_cons hc1,hc2,cutG,if_pos rfl,ks9 _ _ _ _ _ hft,List.drop_drop]at h1 h2;rw[List.drop_eq_getElem_cons hc1,hc2,qh5]at h3;exact⟨h1,h2,h3⟩
theorem jrel_end{L B:List UInt8}{k fr tz:Nat}{ps:List (List UInt8)}{pt:List ByteArray}{op:Bool}{P1:List (List UInt8)}{part1:List UInt8}{op1:Bool}{c:UInt8}
 (h:jrel L B k fr tz ps pt op P1 part1 op1) (hft:fr≤tz) (hk:L[k]?=some c) (hc:c≠255):
 jrel L B (k+1) (tz+c.toNat) (tz+c.toNat) (ps ++ [partJ B fr (tz+c.toNat) pt]) [] false P1 part1 op1:=by
 obtain⟨h1,h2,h3⟩:=h;obtain⟨hc1,hc2⟩:=List.getElem?_eq_some_iff.1 hk;rw[List.drop_eq_getElem_cons hc1,hc2,cutG,if_neg hc,ks9 _ _ _ _ _ hft,List.drop_drop]at h1 h2;rw[List.drop_eq_getElem_cons hc1,hc2,qh5,show(c==255)=false from beq_eq_false_iff_ne.2 hc]at h3;have e:partJ B (tz+c.toNat) (tz+c.toNat) [] = []:=by unfold partJ;simp
 refine⟨?_,?_,h3⟩
 · rw[e,List.append_assoc,List.cons_append,List.nil_append];exact h1
 · rw[e];exact h2
theorem xc6{L B:List UInt8}{k fr tz:Nat}{ps:List (List UInt8)}{pt:List ByteArray}{op:Bool}{P1:List (List UInt8)}{part1:List UInt8}{op1:Bool}
 (h:jrel L B k fr tz ps pt op P1 part1 op1) (hk:L.length≤k):P1=ps∧part1=partJ B fr tz pt∧op1=op:=by
 obtain⟨h1,h2,h3⟩:=h;rw[List.drop_of_length_le hk]at h1 h2 h3;exact⟨by rw[←h1];simp[cutG],by rw[←h2];simp[cutG],by rw[←h3];rfl⟩
theorem vj2(L B:List UInt8)(ps:List (List UInt8))(pt:List ByteArray)(op:Bool):
 jrel L B 0 0 0 ps pt op (ps++(cutG L B (pt.map bl).flatten).1) (cutG L B (pt.map bl).flatten).2 (openL op L):=by
 unfold jrel partJ;simp
theorem ks8(B:List UInt8)(fr tz:Nat)(pt:List ByteArray)(x:ByteArray)(hx:bl x=(B.drop fr).take (tz-fr)):((pt ++ [x]).map bl).flatten=partJ B fr tz pt:=by
 unfold partJ;rw[List.map_append,List.flatten_append,←hx];simp
theorem vg4(B:List UInt8)(fr tz:Nat)(pt:List ByteArray)(h:¬fr<tz):(pt.map bl).flatten=partJ B fr tz pt:=by
 unfold partJ;rw[show tz-fr=0 by omega];simp
theorem jr1(s:ByteArray)(a b:Nat):bl (s.extract a b)=((bl s).drop a).take (b-a):=by
 show(s.extract a b).data.toList=_;rw[ByteArray.data_extract,Array.toList_extract,List.extract_eq_take_drop]
structure JS (w:World) (v1 v2:Value) (ps:List (List UInt8)) (pt:List ByteArray) (wr:World):Prop where
 gg:Below w.heap.size w wr
 ft:wr.heap[w.heap.size]?=some (.cells #[.int .i64 0,.int .i64 0] 54 (0,0))
 r1:wr.ownsRow (w.heap.size+1) 9 1 v1 ps.length (scells (ps.map toB))
 r2:wr.ownsRow (w.heap.size+1) 9 1 v2 pt.length (scells pt)
 dj:∀k,some k=v2.ownBlock→some k≠v1.ownBlock
section
variable {w wr:World} {v1 v2:Value} {ps:List (List UInt8)} {pt:List ByteArray}
theorem JS.bel(h:JS w v1 v2 ps pt wr){w':World}(hb:Below wr.heap.size wr w'):JS w v1 v2 ps pt w':=by
 obtain⟨a,b,c,d,e⟩:=h;exact⟨bt a hb,blkP b hb,jb2 c hb,jb2 d hb,e⟩
theorem JS.lt(h:JS w v1 v2 ps pt wr):w.heap.size+1≤wr.heap.size:=(Array.getElem?_eq_some_iff.1 h.ft).1
theorem JS.pushQ(h:JS w v1 v2 ps pt wr){w':World}{v':Value}{x:ByteArray}(ho:w'.ownsRow (w.heap.size+1) 9 1 v' (pt.length+1) (scells pt++(#[.string x]:Array Value).toList))(hb:Below (w.heap.size+1) wr w')
 (hk:∀k,k<wr.heap.size→some k≠v2.ownBlock→w'.heap[k]?=wr.heap[k]?) (hl:v'.ownBlock=v2.ownBlock∨v'.ownBlock=some (wr.heap.size+1)):JS w v1 v' ps (pt ++ [x]) w':=by
 have hlt:=h.lt;obtain⟨a,b,c,d,e⟩:=h;refine⟨a.trans (hb.mono (by omega)),(hb.block _ (by omega)).trans b,?_,?_,?_⟩
 · exact jb5 c fun q hq=>hk q (jb7 c q hq).2 (fun h'=>e q h' hq.symm)
 · rw[jd4,List.length_append];exact ho
 · intro k hk1 hk2
   rcases hl with hl|hl
   · exact e k (hk1.trans hl) hk2
   · have:=(jb7 c k hk2.symm).2
     rw[hl]at hk1;simp at hk1;omega
theorem JS.pushP(h:JS w v1 v2 ps pt wr){w':World}{v':Value}{s:List UInt8}(ho:w'.ownsRow (w.heap.size+1) 9 1 v' (ps.length+1) (scells (ps.map toB)++(#[.string (toB s)]:Array Value).toList))(hb:Below (w.heap.size+1) wr w'):
 JS w v' (.slice none 0 0) (ps ++ [s]) [] w':=by
 have hlt:=h.lt;obtain⟨a,b,c,d,e⟩:=h;refine⟨a.trans (hb.mono (by omega)),(hb.block _ (by omega)).trans b,?_,World.ownsRow_nil _ _ _ _,?_⟩
 · rw[List.map_append,jd4,List.length_append];exact ho
 · intro k hk;simp[Value.ownBlock]at hk
end
def JoinPost(R:List (List UInt8)×Int×Int)(w:World)(e:Ending)(w':World):Prop:=
 Below w.heap.size w w'∧∃v,e=.returned (.tuple #[v,.agg #[.int .i64 R.2.1,.int .i64 R.2.2]])∧w'.ownsRow w.heap.size 9 1 v R.1.length (scells (R.1.map toB))
set_option maxRecDepth 100000 in
theorem kn7(v:Value)(l:List PG)(w:World)(hrow:Row w v l.length (gcells l))(hn:l.length≤2000000)(hsm:∀p∈l,p.la.size≤1073741824∧p.bo.size≤1073741824):
 Calls Tryz.prog 63 #[v] w (JoinPost (joinG l 0 false [] []) w):=by
 obtain⟨av,cap,rfl,hc⟩:=hrow;obtain⟨R,hR⟩:∃R,R=joinG l 0 false [] []:=⟨_,rfl⟩;rw[←hR];obtain⟨n,hn'⟩:∃n,n=l.length:=⟨_,rfl⟩;rw[←hn']at hn ⊢;obtain⟨W,hW⟩:∃W,W=w.alloc (.cells #[.int .i64 0,.int .i64 0] 54):=⟨_,rfl⟩;have F:W.heap[w.heap.size]?=some (.cells #[.int .i64 0,.int .i64 0] 54 (0,0)):=by rw[hW];exact heap_alloc_new _ _
 have hbW:Below w.heap.size w W:=by rw[hW];exact bal (Below.refl _ _) _
 have J0:JS w (.slice none 0 0) (.slice none 0 0) [] [] W:=⟨hbW,F,World.ownsRow_nil _ _ _ _,World.ownsRow_nil _ _ _ _,fun k hk=>by simp[Value.ownBlock]at hk⟩;have HC:=Lib.hid hc;have HR:=Lib.hid hR;have HN:=Lib.hid hn';have HSM:=Lib.hid hsm;have HJ0:=Lib.hid J0;have HBW:=Lib.hid hbW;clear hc hR hn' hsm J0 hbW;clear F
 go_enter Tryz.func63,Tryz.ntmps63
 go_wp2_with fail
 rw[←hW];clear hW
 go_loopw [4,5,6,14] (fun pv qv ov iv wr=>∃(i:Nat) (op:Bool) (ps:List (List UInt8)) (pt:List ByteArray),iv=.int .i64 (i:Int)∧ov=.bool op∧Hid (JS w pv qv ps pt wr)∧i≤n∧ps.length≤255*i∧pt.length≤i∧Hid ((pt.map bl).flatten.length≤65025*i)∧Hid (joinG (l.drop i) i op ps (pt.map bl).flatten=R)) (fun _ _ _ iv _=>n-(intOf iv).toNat)
 case atStart=>exact⟨0,false,[],[],rfl,rfl,HJ0,Nat.zero_le _,Nat.zero_le _,Nat.zero_le _,Lib.hid (Nat.zero_le _),Lib.hid (by rw[List.drop_zero];exact HR.out.symm)⟩
 case round=>
  clear HJ0;obtain⟨i,op,ps,pt,rfl,rfl,HG,hi,hps,hpt,HPL,HP⟩:=hrel;by_cases hlt:i<n
  · obtain⟨p,hp⟩:=jb6 l i (by rw[←HN.out];exact hlt)
    obtain⟨g,o,rfl,d0,d1,d2,d3,d4,d5⟩:=g_at HC.out i p hp;have d0:=kc HG.out.gg d0;have d1:=kc HG.out.gg d1;have d2:=kc HG.out.gg d2;have d3:=kc HG.out.gg d3;have d4:=kc HG.out.gg d4;have d5:=kc HG.out.gg d5;obtain⟨s1,s2⟩:=HSM.out p (List.mem_of_getElem? hp);have hP:=HP.out;obtain⟨hp1,hp2⟩:=List.getElem?_eq_some_iff.1 hp;rw[List.drop_eq_getElem_cons hp1,hp2,joinG]at hP;have k1:=fun w=>kc5 p w s1 s2
    have k2:=fun w=>jb8 (gcheckM p) 0 w
    have k3:=fun w=>jx9 p w
    unfold gV at k1;unfold hV at k3;have m0:(0:Int)≤(i:Int):=by omega
    have m1:(i:Int)<(n:Int):=by omega
    have hw1:IntKind.i64.wrap ((i:Int)+1)=(i:Int)+1:=wi64 _ (by omega) (by omega);clear hp1 hp2 HP;by_cases hck:gcheckM p=0
    · by_cases hcg:contG p=op
      · rw[if_neg (by rintro(h|h);exact h hck;exact h hcg)]at hP
        rw[hck]at k1 k2;rw[show(!decide ((0:Int)=0))=false from rfl]at k2;rw[hcg]at k3;obtain⟨t1,t2⟩:=(jj7 p).1 hck;have hst:=vj2 (bl p.la) (bl p.bo) ps pt op;generalize ps++(cutG (bl p.la) (bl p.bo) (pt.map bl).flatten).1=P1 at *;generalize (cutG (bl p.la) (bl p.bo) (pt.map bl).flatten).2=part1 at *;generalize openL op (bl p.la)=op1 at *;have hLL:=jb1 p.la;have hcL:(bl p.bo).length=totL (bl p.la):=by rw[jb1];exact t2
        have hbne:(op != op)=false:=by simp
        have K1:=Lib.hid k1;have K2:=Lib.hid k2;have K3:=Lib.hid k3;have HP2:=Lib.hid hP;have HST:=Lib.hid hst;have T2:=Lib.hid t2;have HLL:=Lib.hid hLL;have HCL:=Lib.hid hcL;clear k1 k2 k3 hP hst t2 hLL hcL;clear hck hcg hp s1 s2
        go_wp2_with (first
         | (go_at_call 33;(with_reducible refine(K1.out _).mono ?_);rintro e1 w1 ⟨rfl,hb1⟩;have G1:=(HG.out.bel (bal (Below.refl _ _) (.cells #[.int .u8 p.fl.toNat,.int .u64 p.po,.int .u32 p.se,.int .u32 p.nu,.string p.la,.string p.bo] 27))).bel hb1;have B1:=blkP (heap_alloc_new wr (.cells #[.int .u8 p.fl.toNat,.int .u64 p.po,.int .u32 p.se,.int .u32 p.nu,.string p.la,.string p.bo] 27)) hb1)
         | (go_at_call 16;refine(K2.out _).mono ?_;rintro e2 w2 ⟨rfl,hb2⟩;have G2:=G1.bel hb2;have B2:=blkP B1 hb2;obtain⟨p0,p1,p2,p3,p4,p5⟩:=gvL B2)
         | (go_at_call 32;(with_reducible refine(K3.out _).mono ?_);rintro e3 w3 ⟨rfl,hb3⟩;have G3:=G2.bel hb3;have B3:=blkP B2 hb3;clear p0 p1 p2 p3 p4 p5;obtain⟨p0,p1,p2,p3,p4,p5⟩:=gvL B3)
         | fail)
        have GB:=Lib.hid G3;have BB:=Lib.hid B3;clear G1 G2 G3 B1 B2 B3 hb1 hb2 hb3 p0 p1 p2 p3 p4 p5 d0 d1 d2 d3 d4 d5;obtain⟨fl,po,se,nu,S,T⟩:=p;simp only at t1 K1 K3 HST T2 HLL HCL BB ⊢;generalize wr.heap.size=P at *;generalize (fl.toNat:Int)=f at *
        go_loopw [4,5,6,9,10,34] (fun pv qv ov fv tv kv wr=>∃(k fr tz:Nat) (ps':List (List UInt8)) (pt':List ByteArray) (op':Bool),kv=.int .i64 (k:Int)∧fv=.int .i64 (fr:Int)∧tv=.int .i64 (tz:Int)∧ov=.bool op'∧Hid (JS w pv qv ps' pt' wr)∧Hid (wr.heap[P]?=some (.cells #[.int .u8 f,.int .u64 po,.int .u32 se,.int .u32 nu,.string S,.string T] 27 (0,0)))∧k≤S.size∧fr≤tz∧Hid (tz=totL ((bl S).take k))∧ps'.length≤255*i+k∧pt'.length≤i∧Hid ((pt'.map bl).flatten.length≤65025*i)∧Hid (jrel (bl S) (bl T) k fr tz ps' pt' op' P1 part1 op1)) (fun _ _ _ _ _ kv _=>S.size-(intOf kv).toNat)
        case atStart=>exact⟨0,0,0,ps,pt,op,rfl,rfl,rfl,rfl,GB,BB,Nat.zero_le _,Nat.le_refl _,Lib.hid rfl,hps,hpt,HPL,HST⟩
        case round=>
         clear GB BB HST;obtain⟨k,fr,tz,ps2,pt2,op2,rfl,rfl,rfl,rfl,HG2,HB2,hk,hft,HTZ,hps2,hpt2,HPL2,HJ⟩:=hrel;obtain⟨c4,c4'⟩:=jb0 HB2.out 4 _ rfl;obtain⟨c5,c5'⟩:=jb0 HB2.out 5 _ rfl;have htle:=jf1 ((bl S).take k);rw[List.length_take,←HTZ.out]at htle;by_cases hl2:k<S.size
         · obtain⟨c,hc⟩:=jb6 (bl S) k (by rw[HLL.out];exact hl2)
           have X:∀h,S[k]'h=c:=jc7 S k c hc;have hst:=jr7 (bl S) k c hc;rw[←HTZ.out]at hst;have hcl:=c.toNat_lt;have hle2:tz+c.toNat≤T.size:=by
            rw[T2.out,←hst]
            conv=>rhs;rw[←List.take_append_drop (k+1) (bl S),jc8]
            omega
           have j0:(0:Int)≤(k:Int):=by omega
           have j1:(k:Int)<(S.size:Int):=by omega
           have hTs:T.size≤300000000000:=by
            have:=jf1 (bl S);rw[T2.out];rw[HLL.out]at this;omega
           have hwr:IntKind.i64.wrap ((tz:Int)+(c.toNat:Int))=((tz+c.toNat:Nat):Int):=by rw[wi64 _ (by omega) (by omega)];omega
           by_cases h255:c=255
           · subst h255
             have hj:=xc5 HJ.out hft hc;have HJ2:=Lib.hid hj;have HTZ2:Hid (tz+255=totL ((bl S).take (k+1))):=Lib.hid hst.symm;clear hj hst hc htle
             go_wp2_with fail
             exact⟨⟨k+1,fr,tz+255,ps2,pt2,true,by go_num,rfl,by go_num,rfl,HG2,HB2,by omega,by omega,HTZ2,by omega,hpt2,HPL2,HJ2⟩,by simp[intOf];omega⟩
           · have hne:¬(c.toNat:Int)=255:=fun h=>h255 (UInt8.toNat_inj.1 (by show c.toNat=255;omega))
             have hj:=jrel_end HJ.out hft hc h255;have HTZ2:Hid (tz+c.toNat=totL ((bl S).take (k+1))):=Lib.hid hst.symm;obtain⟨tn,htn⟩:∃tn,tn=tz+c.toNat:=⟨_,rfl⟩;rw[←htn]at hj hwr hle2 HTZ2;have hx:=jr1 T fr tn;have hpush:=ks8 (bl T) fr tn pt2 (T.extract fr tn) hx;have hplen:(partJ (bl T) fr tn pt2).length≤140737488355328:=by
              rw[←hpush,List.map_append,List.flatten_append,List.length_append];have h1:=HPL2.out;have h2:(List.map bl [T.extract fr tn]).flatten.length≤T.size:=by
               rw[List.map_cons,List.map_nil,List.flatten_cons,List.flatten_nil,List.append_nil,hx,List.length_take,List.length_drop,jb1];omega
              omega
             have kj:∀(u:Value) (w':World),w'.ownsRow (w.heap.size+1) 9 1 u (pt2 ++ [T.extract fr tn]).length (scells (pt2 ++ [T.extract fr tn]))→Calls Tryz.prog 26 #[u] w' fun e w''=>e=.returned (.string (toB (partJ (bl T) fr tn pt2)))∧Below w'.heap.size w' w'':=by
              intro u w' ho;have:=jh3 (w.heap.size+1) u (pt2 ++ [T.extract fr tn]) w' ho (by simp) (by rw[List.length_append];show pt2.length+1≤_;omega) (by rw[hpush];exact hplen);rw[hpush]at this;exact this
             have i0:(0:Int)≤(fr:Int):=by omega
             have i1:(fr:Int)≤(tn:Int):=by omega
             have i2:(tn:Int)≤(T.size:Int):=by omega
             have z1:pt2.length<70368744177664:=by omega
             have z2:(pt2.length+1)*16≤140737488355328:=by omega
             have z3:ps2.length<70368744177664:=by omega
             have z4:(ps2.length+1)*16≤140737488355328:=by omega
             have HX:=Lib.hid hx;have KJ:=Lib.hid kj;have HJ2:=Lib.hid hj;have HFT:=Lib.hid hft;have HTN:=Lib.hid htn;have HPUSH:=Lib.hid hpush;clear kj hj hft htn hpush;clear hst hc htle hplen h255 hx HJ HTZ;have hq:((c.toNat:Int)==255)=false:=by rw[beq_eq_false_iff_ne];exact hne
             have hzl:=HG2.out.lt;have PT:=HG2.out.r2
             go_wp2_with (first
              | (at_builtin;first
                  | (refine jd9 rfl _ _ 77 9 rfl Tryz.underlying77 (.string ⟨#[]⟩) 1 16 jm6 rfl (by decide) wr (w.heap.size+1) u5 pt2.length (scells pt2) rfl PT #[.string (T.extract fr tn)] rfl (by simp[Value.oneCell']) rfl z1 z2 hzl ?_;intro v6 w6 hown6 hb6 hk6 hl6;have G6:=HG2.out.pushQ hown6 hb6 hk6 hl6;have B6:=(hk6 P (Array.getElem?_eq_some_iff.1 HB2.out).1 (fun e=>jd0 PT HB2.out (by decide) e.symm)).trans HB2.out)
                  | (refine jd9 rfl _ _ 77 9 rfl Tryz.underlying77 (.string ⟨#[]⟩) 1 16 jm6 rfl (by decide) w7 (w.heap.size+1) u4 ps2.length (scells (ps2.map toB)) rfl G7.r1 #[.string (toB (partJ (bl T) fr tn pt2))] rfl (by simp[Value.oneCell']) rfl z3 z4 G7.lt ?_;intro v8 w8 hown8 hb8 hk8 hl8;have G8:=G7.pushP hown8 hb8;have B8:=(hk8 P (Array.getElem?_eq_some_iff.1 B7).1 (fun e=>jd0 G7.r1 B7 (by decide) e.symm)).trans B7))
              | (go_at_call 26;(with_reducible refine(KJ.out _ _ G6.r2).mono ?_);rintro e7 w7 ⟨rfl,hb7⟩;have G7:=G6.bel hb7;have B7:=blkP B6 hb7)
              | fail)
             exact⟨⟨k+1,tn,tn,ps2 ++ [partJ (bl T) fr tn pt2],[],false,by go_num,rfl,rfl,rfl,Lib.hid G8,Lib.hid B8,by omega,Nat.le_refl _,HTZ2,by rw[List.length_append];show ps2.length+1≤_;omega,Nat.zero_le _,Lib.hid (Nat.zero_le _),HJ2⟩,by simp[intOf];omega⟩
         · obtain⟨q1,q2,q3⟩:=xc6 HJ.out (by rw[HLL.out];omega)
           have hkS:k=S.size:=by omega
           have htT:tz=T.size:=by rw[HTZ.out,List.take_of_length_le (by rw[HLL.out];omega),T2.out]
           have hT255:T.size≤65025:=by
            have:=jf1 (bl S);rw[HLL.out,←T2.out]at this;omega
           have hP2:=HP2.out;rw[q1,q2,q3]at hP2;have hpl:=HPL2.out;have j1:¬(k:Int)<(S.size:Int):=by omega
           have i0:(0:Int)≤(fr:Int):=by omega
           have i1:(fr:Int)≤(tz:Int):=by omega
           have i2:(tz:Int)≤(T.size:Int):=by omega
           have z1:pt2.length<70368744177664:=by omega
           have z2:(pt2.length+1)*16≤140737488355328:=by omega
           have z5:ps2.length≤255*(i+1):=by omega
           by_cases hlt2:fr<tz
           · have hx:=jr1 T fr tz
             have hpush:=ks8 (bl T) fr tz pt2 (T.extract fr tz) hx;rw[←hpush]at hP2;have hpl3:((pt2 ++ [T.extract fr tz]).map bl).flatten.length≤65025*(i+1):=by
              rw[List.map_append,List.flatten_append,List.length_append];have h2:(List.map bl [T.extract fr tz]).flatten.length≤T.size:=by
               rw[List.map_cons,List.map_nil,List.flatten_cons,List.flatten_nil,List.append_nil,hx,List.length_take,List.length_drop,jb1];omega
              omega
             have hq:(fr:Int)<(tz:Int):=by omega
             have HPL3:=Lib.hid hpl3;have HP3:=Lib.hid hP2;have hzl:=HG2.out.lt;have PT:=HG2.out.r2;clear q1 q2 q3 hkS htT hT255 hP2 hpl hpl3 hx hpush hft htle HJ HTZ
             go_wp2_with (first
              | (at_builtin;refine jd9 rfl _ _ 77 9 rfl Tryz.underlying77 (.string ⟨#[]⟩) 1 16 jm6 rfl (by decide) wr (w.heap.size+1) u5 pt2.length (scells pt2) rfl PT #[.string (T.extract fr tz)] rfl (by simp[Value.oneCell']) rfl z1 z2 hzl ?_;intro v6 w6 hown6 hb6 hk6 hl6;have G6:=HG2.out.pushQ hown6 hb6 hk6 hl6)
              | fail)
             exact⟨⟨i+1,op2,ps2,pt2 ++ [T.extract fr tz],by go_num,rfl,Lib.hid G6,by omega,z5,by rw[List.length_append];show pt2.length+1≤_;omega,HPL3,HP3⟩,by simp[intOf];omega⟩
           · have hnone:=vg4 (bl T) fr tz pt2 hlt2
             rw[←hnone]at hP2;have hq:¬(fr:Int)<(tz:Int):=by omega
             have HPL3:Hid ((pt2.map bl).flatten.length≤65025*(i+1)):=Lib.hid (by omega);have HP3:=Lib.hid hP2;clear q1 q2 q3 hkS htT hT255 hP2 hpl hnone hft htle HJ HTZ
             go_wp2_with fail
             exact⟨⟨i+1,op2,ps2,pt2,by go_num,rfl,HG2,by omega,z5,by omega,HPL3,HP3⟩,by simp[intOf];omega⟩
      · rw[if_pos (.inr hcg)]at hP
        have HRR:Hid (R=([],1,(i:Int))):=Lib.hid hP.symm;rw[hck]at k1 k2;rw[show(!decide ((0:Int)=0))=false from rfl]at k2;have hbne:(contG p==op)=false:=by rw[beq_eq_false_iff_ne];exact hcg
        generalize contG p=cg at *;have K1:=Lib.hid k1;have K2:=Lib.hid k2;have K3:=Lib.hid k3;clear k1 k2 k3;clear hck hcg hp s1 s2 hP
        go_wp2_with (first
         | (go_at_call 33;(with_reducible refine(K1.out _).mono ?_);rintro e1 w1 ⟨rfl,hb1⟩;have G1:=(HG.out.bel (bal (Below.refl _ _) (.cells #[.int .u8 p.fl.toNat,.int .u64 p.po,.int .u32 p.se,.int .u32 p.nu,.string p.la,.string p.bo] 27))).bel hb1;have B1:=blkP (heap_alloc_new wr (.cells #[.int .u8 p.fl.toNat,.int .u64 p.po,.int .u32 p.se,.int .u32 p.nu,.string p.la,.string p.bo] 27)) hb1)
         | (go_at_call 16;refine(K2.out _).mono ?_;rintro e2 w2 ⟨rfl,hb2⟩;have G2:=G1.bel hb2;have B2:=blkP B1 hb2;obtain⟨p0,p1,p2,p3,p4,p5⟩:=gvL B2)
         | (go_at_call 32;(with_reducible refine(K3.out _).mono ?_);rintro e3 w3 ⟨rfl,hb3⟩;have G3:=G2.bel hb3;obtain⟨q0,q0'⟩:=jb0 G3.ft 0 _ rfl;obtain⟨q1,q1'⟩:=jb0 G3.ft 1 _ rfl)
         | fail)
        refine bodyPost_ret (v:=.tuple #[.slice none 0 0,.agg #[.int .i64 1,.int .i64 (i:Int)]]) (by simp[results,Tryz.results63,go_sem,q0,q1,q0',q1']) rfl ?_;rw[HRR.out];exact⟨(G3.gg.setCell (by simp) _).setCell (by simp) _,_,rfl,World.ownsRow_nil _ _ _ _⟩
    · rw[if_pos (.inl hck)]at hP
      have HRR:Hid (R=([],1,(i:Int))):=Lib.hid hP.symm;rw[show(!decide (gcheckM p=0))=true by simpa using hck]at k2;generalize gcheckM p=ck at *;have K1:=Lib.hid k1;have K2:=Lib.hid k2;have K3:=Lib.hid k3;clear k1 k2 k3;clear hck hp s1 s2 hP
      go_wp2_with (first
       | (go_at_call 33;(with_reducible refine(K1.out _).mono ?_);rintro e1 w1 ⟨rfl,hb1⟩;have G1:=(HG.out.bel (bal (Below.refl _ _) (.cells #[.int .u8 p.fl.toNat,.int .u64 p.po,.int .u32 p.se,.int .u32 p.nu,.string p.la,.string p.bo] 27))).bel hb1)
       | (go_at_call 16;refine(K2.out _).mono ?_;rintro e2 w2 ⟨rfl,hb2⟩;have G2:=G1.bel hb2;obtain⟨q0,q0'⟩:=jb0 G2.ft 0 _ rfl;obtain⟨q1,q1'⟩:=jb0 G2.ft 1 _ rfl)
       | fail)
      refine bodyPost_ret (v:=.tuple #[.slice none 0 0,.agg #[.int .i64 1,.int .i64 (i:Int)]]) (by simp[results,Tryz.results63,go_sem,q0,q1,q0',q1']) rfl ?_;rw[HRR.out];exact⟨(G2.gg.setCell (by simp) _).setCell (by simp) _,_,rfl,World.ownsRow_nil _ _ _ _⟩
  · have hP:=HP.out
    rw[List.drop_of_length_le (by rw[←HN.out];omega),joinG]at hP;have hin:i=n:=by omega
    have m1:¬(i:Int)<(n:Int):=by omega
    obtain⟨q0,q0'⟩:=jb0 HG.out.ft 0 _ rfl;obtain⟨q1,q1'⟩:=jb0 HG.out.ft 1 _ rfl;cases op with
    | true=>
     rw[if_pos rfl]at hP;have HRR:Hid (R=([],1,(n:Int))):=Lib.hid (by rw[←hP,hin]);clear hP hin
     go_wp2_with fail
     refine bodyPost_ret (v:=.tuple #[.slice none 0 0,.agg #[.int .i64 1,.int .i64 (n:Int)]]) (by simp[results,Tryz.results63,go_sem,q0,q1,q0',q1']) rfl ?_;rw[HRR.out];exact⟨(HG.out.gg.setCell (by simp) _).setCell (by simp) _,_,rfl,World.ownsRow_nil _ _ _ _⟩
    | false=>
     rw[if_neg (by decide)]at hP;have HRR:Hid (R=(ps,0,0)):=Lib.hid hP.symm;have hown:=HG.out.r1;clear hP hin
     go_wp2_with fail
     refine bodyPost_ret (v:=.tuple #[u4,.agg #[.int .i64 0,.int .i64 0]]) (by simp[results,Tryz.results63,go_sem,q0,q1,q0',q1']) rfl ?_;rw[HRR.out];exact⟨(HG.out.gg.setCell (by simp) _).setCell (by simp) _,_,rfl,jc3 (jb5 hown fun q hq=>by
      have:=(jb7 hown q hq).1;rw[Below.heap_setCell _ _ _ q (by simp;omega),Below.heap_setCell _ _ _ q (by simp;omega)]) (Nat.le_succ _)⟩
end Go.Proofs.YtagjkmkmphamoaaGreatDoor
