/- B5 -/
import Derived.Test.YtagjkmkmphamoaaGreatDoorPB4
import Derived.Deep.RegionHeld3
import Derived.Test.YtagjkmkmphamoaaGreatDoorPB0
import Derived.Test.YtagjkmkmphamoaaGreatDoorPA8
import Derived.Test.YtagjkmkmphamoaaGreatDoorPB3
set_option linter.all false
set_option maxHeartbeats 8000000
namespace Go.Proofs.YtagjkmkmphamoaaGreatDoor
open Go.RowKit
theorem jw6:∀(l:List PG) (i:Nat),gcells (l.drop i)=(gcells l).drop (i*6)
 | l,0=>by simp
 | [],i+1=>by simp[gcells]
 | p::r,i+1=>by
  have h:=jw6 r i;unfold gcells at h ⊢;rw[List.drop_succ_cons,h,List.flatMap_cons,show(i+1)*6=(g1cells p).length+i*6 by show _=6+_;omega,←List.drop_drop,List.drop_left]
theorem kn8:∀(l:List PG) (i:Nat),gcells (l.take i)=(gcells l).take (i*6)
 | l,0=>by simp[gcells]
 | [],i+1=>by simp[gcells]
 | p::r,i+1=>by
  have h:=kn8 r i;unfold gcells at h ⊢;rw[List.take_succ_cons,List.flatMap_cons,h,List.flatMap_cons,show(i+1)*6=(g1cells p).length+i*6 by show _=6+_;omega,List.take_length_add_append]
theorem row_sub{w:World}{g o c:Nat}{l:List PG}(hc:∀(j:Nat) (x:Value),(gcells l)[j]?=some x→w.cell? ⟨g,o+j,none⟩=some x)(i m:Nat):
 Row w (.slice (some ⟨g,o+i*6,none⟩) m c) m (gcells ((l.drop i).take m)):=by
 refine⟨_,_,rfl,fun j x hj=>⟨g,o+i*6,rfl,?_⟩⟩;rw[kn8,jw6,List.getElem?_take]at hj;split at hj
 · rw[List.getElem?_drop]at hj
   rw[Nat.add_assoc];exact hc _ _ hj
 · cases hj
theorem kj7:∀(r:List PG) (i c k:Nat),secondF r i c=some k→i≤k∧k<i+r.length
 | [],i,c,k,h=>by simp[secondF]at h
 | p::r,i,c,k,h=>by
  rw[secondF]at h;split at h
  · simp only[Option.some.injEq]at h
    rw[List.length_cons];omega
  · have:=kj7 r _ _ k h
    rw[List.length_cons];omega
theorem qj8:∀(l:List PG) (i:Nat) (op:Bool) (ps:List (List UInt8)) (part:List UInt8),((joinG l i op ps part).2.1=0∧(joinG l i op ps part).2.2=0)∨((joinG l i op ps part).2.1=1∧∃j:Nat,(joinG l i op ps part).2.2=(j:Int)∧j≤i+l.length)
 | [],i,op,ps,part=>by
  rw[joinG];cases op with
  | true=>exact .inr ⟨rfl,i,rfl,Nat.le_refl _⟩
  | false=>exact .inl ⟨rfl,rfl⟩
 | p::r,i,op,ps,part=>by
  rw[joinG];split
  · exact .inr ⟨rfl,i,rfl,by omega⟩
  · rcases qj8 r (i+1) (openL op (bl p.la)) (ps++(cutG (bl p.la) (bl p.bo) part).1) (cutG (bl p.la) (bl p.bo) part).2 with h|⟨h,j,hj,hl⟩
    · exact .inl h
    · exact .inr ⟨h,j,hj,by rw[List.length_cons];omega⟩
theorem km0(l:List Nat)(i:Nat)(h:i<l.length):(ncells (plV l))[i]?=some (.int .i64 ((l.getD i 0:Nat):Int)):=by
 unfold ncells plV;rw[List.getElem?_map,List.getElem?_map,List.getElem?_eq_getElem h];simp[List.getD,h]
def PairPost(R:(List (List UInt8)×Nat) ⊕ Nat)(w:World)(e:Ending)(w':World):Prop:=Below w.heap.size w w'∧match R with
 | .inr a=>e=.returned (.tuple #[.slice none 0 0,.int .i64 0,.agg #[.int .i64 1,.int .i64 (a:Int)]])
 | .inl q=>∃v,e=.returned (.tuple #[v,.int .i64 (q.2:Int),.agg #[.int .i64 0,.int .i64 0]])∧w'.ownsRow w.heap.size 9 1 v q.1.length (scells (q.1.map toB))
theorem jn7{w:World}{B:Nat}{e:TypeId}{s n:Nat}{v:Value}{cs:List Value}(h:w.ownsRow B e s v n cs)(hn:n≠0):
 ∃g cap,v=.slice (some ⟨g,0,none⟩) n cap∧B≤g∧n≤cap∧cap≤maxLen∧∀(j:Nat) (x:Value),cs[j]?=some x→w.cell? ⟨g,0+j,none⟩=some x:=by
 have h':=h;rcases h.2 with⟨_,h0⟩|⟨g,cap,cur,rfl,hg,hh,hnc,hcm,hcs,htk⟩
 · exact absurd h0 hn
 · refine⟨g,cap,rfl,hg,hnc,hcm,fun j x hj=>?_⟩
   have hl:j<n*s:=by have:=(List.getElem?_eq_some_iff.1 hj).1;have:=h.1;omega
   rw[Nat.zero_add,h'.cellAt j hl];exact hj
set_option maxRecDepth 100000 in
theorem kg6(s:ByteArray)(B:Nat)(v u:Value)(p0:PG)(r:List PG)(at_:List Nat)(w:World)(hown:w.ownsRow B 27 6 v (r.length+1) (gcells (p0::r)))(hat:Row w u at_.length (ncells (plV at_)))(hlen:at_.length=r.length+1)(hn:r.length≤1900000)(hss:s.size≤1073741824)(hsm:∀p∈p0::r,p.la.size≤1073741824∧p.bo.size≤1073741824):
 Calls Tryz.prog 39 #[.string s,v,u] w (PairPost (pairM s.size r at_) w):=by
 have hrow:=jc2 hown;obtain⟨g,cap,rfl,_,hcap,hcm,hc0⟩:=jn7 hown (by omega);obtain⟨au,cu,rfl,hcu⟩:=hat;obtain⟨R,hR⟩:∃R,R=pairM s.size r at_:=⟨_,rfl⟩;rw[←hR];unfold pairM at hR;have ksec:∀w',Below w.heap.size w w'→Calls Tryz.prog 74 #[.slice (some ⟨g,0,none⟩) (r.length+1) cap] w' fun e w''=>e=.returned (.int .i64 (optI (secondF r 1 0)))∧w'=w'':=fun w' hb=>qt3 _ (p0::r) w' (hrow.keep hb) (by rw[List.length_cons];omega) (fun p hp=>(hsm p hp).1)
 obtain⟨n,hn'⟩:∃n,n=r.length+1:=⟨_,rfl⟩;rw[←hn']at hcap ksec ⊢;rw[hlen,←hn'] ;have kmal:=fun a w=>jh5 a w
 obtain⟨W,hW⟩:∃W,W=w.alloc (.cells #[.int .i64 0,.int .i64 0] 54):=⟨_,rfl⟩;have hbW:Below w.heap.size w W:=by rw[hW];exact bal (Below.refl _ _) _
 have F:W.heap[w.heap.size]?=some (.cells #[.int .i64 0,.int .i64 0] 54 (0,0)):=by rw[hW];exact heap_alloc_new _ _
 have KF:Hid (∀wz,Below W.heap.size W wz→wz.cell? ⟨w.heap.size,0,none⟩=some (.int .i64 0)∧wz.frozen? ⟨w.heap.size,0,none⟩=false∧wz.cell? ⟨w.heap.size,1,none⟩=some (.int .i64 0)∧wz.frozen? ⟨w.heap.size,1,none⟩=false):=Lib.hid fun wz hb=>by
  have hF:=blkP F hb;exact⟨(jb0 hF 0 _ rfl).1,(jb0 hF 0 _ rfl).2,(jb0 hF 1 _ rfl).1,(jb0 hF 1 _ rfl).2⟩
 have KEND:Hid (∀wz x y,Below W.heap.size W wz→Below w.heap.size w ((wz.setCell ⟨w.heap.size,0,none⟩ x).setCell ⟨w.heap.size,1,none⟩ y)):=Lib.hid fun wz x y hb=>((hbW.trans (hb.mono hbW.size)).setCell (by simp) _).setCell (by simp) _
 have KWS:Hid (W.heap.size=w.heap.size+1):=Lib.hid (by rw[hW,World.size_alloc]);clear F hown;cases hs2:secondF r 1 0 with
 | none=>
  rw[hs2]at hR ksec;unfold optI at ksec;simp only at hR ksec;have HR:=Lib.hid hR;have KSEC:=Lib.hid ksec;have KMAL:=Lib.hid kmal;have HBW:=Lib.hid hbW;have HCU:=Lib.hid hcu;have HROW:=Lib.hid hrow;have HSM:=Lib.hid hsm;have HC0:=Lib.hid hc0;have HN:=Lib.hid hn';have HLEN:=Lib.hid hlen;clear hR ksec kmal hbW hcu hrow hsm hc0 hn' hlen;clear hs2 hcap hcm
  go_enter Tryz.func39,Tryz.ntmps39
  go_wp2_with fail
  rw[←hW];clear hW
  go_wp2_with (first
   | (go_at_call 74;(with_reducible refine(KSEC.out _ HBW.out).mono ?_);rintro e1 w1 ⟨rfl,rfl⟩)
   | (go_at_call 38;(with_reducible refine(KMAL.out _ _).mono ?_);rintro e2 w2 ⟨rfl,hb2⟩;obtain⟨q0,q0',q1,q1'⟩:=KF.out _ hb2)
   | fail)
  refine bodyPost_ret (v:=.tuple #[.slice none 0 0,.int .i64 0,.agg #[.int .i64 1,.int .i64 s.size]]) (by simp[results,Tryz.results39,go_sem,q0,q1,q0',q1']) rfl ?_;rw[HR.out];exact⟨KEND.out _ _ _ hb2,rfl⟩
 | some k=>
  rw[hs2]at hR ksec;unfold optI at ksec;simp only at hR ksec;obtain⟨k1,k2⟩:=kj7 _ _ _ _ hs2;have kj:∀(c:Nat) (w':World),Below w.heap.size w w'→Calls Tryz.prog 63 #[.slice (some ⟨g,6,none⟩) k c] w' (JoinPost (joinG (r.take k) 0 false [] []) w'):=by
   intro c w' hb;have hlk:(r.take k).length=k:=by rw[List.length_take];omega
   have hr:=row_sub (w:=w') (c:=c) (fun j x hj=>kc hb (hc0 j x hj)) 1 k;have:=kn7 (.slice (some ⟨g,6,none⟩) k c) (r.take k) w' (by rw[hlk];exact hr) (by omega) (fun p hp=>hsm p (List.mem_cons_of_mem _ (List.mem_of_mem_take hp)));exact this
  have hjc:=qj8 (r.take k) 0 false [] [];have hlk:(r.take k).length=k:=by rw[List.length_take];omega
  rw[hlk]at hjc;generalize joinG (r.take k) 0 false [] []=J at *;obtain⟨ps,c,a⟩:=J;simp only at hR hjc;unfold JoinPost at kj;simp only at kj;have kb:=fun w=>jb8 c a w
  have hw1:IntKind.i64.wrap ((k:Int)+1)=(k:Int)+1:=wi64 _ (by omega) (by omega);have l1:(1:Int)≤(k:Int)+1:=by omega
  have l2:(k:Int)+1≤(n:Int):=by omega
  have l3:(k:Int)+1≤(cap:Int):=by omega
  have l4:¬(k:Int)<0:=by omega
  rcases hjc with⟨rfl,rfl⟩|⟨rfl,j,rfl,hj⟩
  · rw[show(!decide ((0:Int)=0))=false from rfl]at kb
    rw[if_neg (by simp)]at hR;by_cases hp2:ps.length=2
    · rw[if_neg (by simp[hp2])]at hR
      rw[hp2]at kj;by_cases hct:contO r[k]?=true
      · rw[if_pos hct]at hR
        obtain⟨q,hq⟩:∃q,r[k]?=some q:=by
         cases hrk:r[k]? with
         | none=>rw[hrk]at hct;cases hct
         | some q=>exact⟨q,rfl⟩
        have hkr:=(List.getElem?_eq_some_iff.1 hq).1;rw[hq]at hct;have hct:contG q=true:=hct;obtain⟨g',o',he,z0,z1,z2,z3,_,_⟩:=g_at (l:=p0::r) (av:=some ⟨g,0,none⟩) (w:=w) (fun jj x hx=>⟨g,0,rfl,hc0 jj x hx⟩) (k+1) q (by simpa using hq);simp only[Option.some.injEq,Addr.mk.injEq,and_true]at he;obtain⟨rfl,rfl⟩:=he;have kh:=fun w=>jx9 q w
        rw[hct]at kh;unfold hV at kh;have KZ:Hid (∀wz,Below W.heap.size W wz→wz.cell? ⟨g,0+(k+1)*6,none⟩=some (.int .u8 q.fl.toNat)∧wz.cell? ⟨g,0+(k+1)*6+1,none⟩=some (.int .u64 q.po)∧wz.cell? ⟨g,0+(k+1)*6+2,none⟩=some (.int .u32 q.se)∧wz.cell? ⟨g,0+(k+1)*6+3,none⟩=some (.int .u32 q.nu)):=Lib.hid fun wz hb=>⟨kc hb (kc hbW z0),kc hb (kc hbW z1),kc hb (kc hbW z2),kc hb (kc hbW z3)⟩
        have l5:(k:Int)+1<(n:Int):=by omega
        have KH:=Lib.hid kh;clear kh z0 z1 z2 z3 hct hq;have hx:=km0 at_ (k+1) (by omega);obtain⟨ga,oa,hae,ca⟩:=hcu _ _ hx;subst hae;have KAT:Hid (∀wz,Below W.heap.size W wz→wz.cell? ⟨ga,oa+(k+1),none⟩=some (.int .i64 ((at_.getD (k+1) 0:Nat):Int))):=Lib.hid fun wz hb=>kc hb (kc hbW ca)
        clear hx ca;obtain⟨A,hA⟩:∃A:Int,A=((at_.getD (k+1) 0:Nat):Int):=⟨_,rfl⟩;rw[←hA]at KAT;have HA:=Lib.hid hA;have HR:=Lib.hid hR;clear hA hR;have KSEC:=Lib.hid ksec;have KMAL:=Lib.hid kmal;have HBW:=Lib.hid hbW;have HCU:=Lib.hid hcu;have HROW:=Lib.hid hrow;have HSM:=Lib.hid hsm;have HC0:=Lib.hid hc0;have HN:=Lib.hid hn';have HLEN:=Lib.hid hlen;have KJ:=Lib.hid kj;have KB:=Lib.hid kb;clear ksec kmal hbW hcu hrow hsm hc0 hn' hlen kj kb;clear hs2 hcm hlk
        go_enter Tryz.func39,Tryz.ntmps39
        go_wp2_with fail
        rw[←hW];clear hW
        go_wp2_with (first
         | (go_at_call 74;(with_reducible refine(KSEC.out _ HBW.out).mono ?_);rintro e1 w1 ⟨rfl,rfl⟩)
         | (go_at_call 63;(with_reducible refine(KJ.out _ _ HBW.out).mono ?_);rintro e1 w1 ⟨hb1,v,rfl,ho⟩;obtain⟨av,cv,rfl⟩:=jb4 ho;have hbA:=bal hb1 (.cells #[.int .i64 0,.int .i64 0] 54);have KFA:Hid (∀wz,Below (w1.alloc (.cells #[.int .i64 0,.int .i64 0] 54)).heap.size (w1.alloc (.cells #[.int .i64 0,.int .i64 0] 54)) wz→wz.cell? ⟨w1.heap.size,0,none⟩=some (.int .i64 0)∧wz.cell? ⟨w1.heap.size,1,none⟩=some (.int .i64 0)):=Lib.hid fun wz hb=>⟨((Live.fresh w1 #[.int .i64 0,.int .i64 0] 54 0 _ rfl).keep hb).1,((Live.fresh w1 #[.int .i64 0,.int .i64 0] 54 1 _ rfl).keep hb).1⟩;have hbk:=Below.refl (w1.alloc (.cells #[.int .i64 0,.int .i64 0] 54)).heap.size (w1.alloc (.cells #[.int .i64 0,.int .i64 0] 54));clear hb1)
         | (go_at_call 16;refine(KB.out _).mono ?_;rintro e2 w2 ⟨rfl,hb2⟩;replace hbk:=bt hbk hb2;clear hb2;obtain⟨f0,f1⟩:=KFA.out _ hbk;obtain⟨z0,z1,z2,z3⟩:=KZ.out _ (bt hbA hbk);try rw[Nat.zero_add]at z0;try rw[Nat.zero_add]at z1;try rw[Nat.zero_add]at z2;try rw[Nat.zero_add]at z3)
         | (go_at_call 32;(with_reducible refine(KH.out _).mono ?_);rintro e2 w2 ⟨rfl,hb2⟩;replace hbk:=bt hbk hb2;clear hb2;have ca:=KAT.out _ (bt hbA hbk))
         | (go_at_call 38;(with_reducible refine(KMAL.out _ _).mono ?_);rintro e2 w2 ⟨rfl,hb2⟩;replace hbk:=bt hbk hb2;clear hb2;obtain⟨q0,q0',q1,q1'⟩:=KF.out _ (bt hbA hbk))
         | fail)
        refine bodyPost_ret (v:=.tuple #[.slice none 0 0,.int .i64 0,.agg #[.int .i64 1,.int .i64 A]]) (by simp[results,Tryz.results39,go_sem,q0,q1,q0',q1']) rfl ?_;rw[HR.out];refine⟨KEND.out _ _ _ (bt hbA hbk),?_⟩;show Ending.returned _=Ending.returned _;rw[HA.out]
      · rw[if_neg hct]at hR
        have HR:=Lib.hid hR;clear hR;by_cases hkr:k<r.length
        · obtain⟨q,hq⟩:=jb6 r k hkr
          rw[hq]at hct;have hct:contG q=false:=by cases hh:contG q with
           | true=>exact absurd hh hct
           | false=>rfl
          obtain⟨g',o',he,z0,z1,z2,z3,_,_⟩:=g_at (l:=p0::r) (av:=some ⟨g,0,none⟩) (w:=w) (fun jj x hx=>⟨g,0,rfl,hc0 jj x hx⟩) (k+1) q (by simpa using hq);simp only[Option.some.injEq,Addr.mk.injEq,and_true]at he;obtain⟨rfl,rfl⟩:=he;have kh:=fun w=>jx9 q w
          rw[hct]at kh;unfold hV at kh;have KZ:Hid (∀wz,Below W.heap.size W wz→wz.cell? ⟨g,0+(k+1)*6,none⟩=some (.int .u8 q.fl.toNat)∧wz.cell? ⟨g,0+(k+1)*6+1,none⟩=some (.int .u64 q.po)∧wz.cell? ⟨g,0+(k+1)*6+2,none⟩=some (.int .u32 q.se)∧wz.cell? ⟨g,0+(k+1)*6+3,none⟩=some (.int .u32 q.nu)):=Lib.hid fun wz hb=>⟨kc hb (kc hbW z0),kc hb (kc hbW z1),kc hb (kc hbW z2),kc hb (kc hbW z3)⟩
          have l5:(k:Int)+1<(n:Int):=by omega
          have KH:=Lib.hid kh;clear kh z0 z1 z2 z3 hct hq;have KSEC:=Lib.hid ksec;have KMAL:=Lib.hid kmal;have HBW:=Lib.hid hbW;have HCU:=Lib.hid hcu;have HROW:=Lib.hid hrow;have HSM:=Lib.hid hsm;have HC0:=Lib.hid hc0;have HN:=Lib.hid hn';have HLEN:=Lib.hid hlen;have KJ:=Lib.hid kj;have KB:=Lib.hid kb;clear ksec kmal hbW hcu hrow hsm hc0 hn' hlen kj kb;clear hs2 hcm hlk
          go_enter Tryz.func39,Tryz.ntmps39
          go_wp2_with fail
          rw[←hW];clear hW
          go_wp2_with (first
           | (go_at_call 74;(with_reducible refine(KSEC.out _ HBW.out).mono ?_);rintro e1 w1 ⟨rfl,rfl⟩)
           | (go_at_call 63;(with_reducible refine(KJ.out _ _ HBW.out).mono ?_);rintro e1 w1 ⟨hb1,v,rfl,ho⟩;obtain⟨av,cv,rfl⟩:=jb4 ho;have hbA:=bal hb1 (.cells #[.int .i64 0,.int .i64 0] 54);have KFA:Hid (∀wz,Below (w1.alloc (.cells #[.int .i64 0,.int .i64 0] 54)).heap.size (w1.alloc (.cells #[.int .i64 0,.int .i64 0] 54)) wz→wz.cell? ⟨w1.heap.size,0,none⟩=some (.int .i64 0)∧wz.cell? ⟨w1.heap.size,1,none⟩=some (.int .i64 0)):=Lib.hid fun wz hb=>⟨((Live.fresh w1 #[.int .i64 0,.int .i64 0] 54 0 _ rfl).keep hb).1,((Live.fresh w1 #[.int .i64 0,.int .i64 0] 54 1 _ rfl).keep hb).1⟩;have hbk:=Below.refl (w1.alloc (.cells #[.int .i64 0,.int .i64 0] 54)).heap.size (w1.alloc (.cells #[.int .i64 0,.int .i64 0] 54));clear hb1)
           | (go_at_call 16;refine(KB.out _).mono ?_;rintro e2 w2 ⟨rfl,hb2⟩;replace hbk:=bt hbk hb2;clear hb2;obtain⟨f0,f1⟩:=KFA.out _ hbk;obtain⟨z0,z1,z2,z3⟩:=KZ.out _ (bt hbA hbk);try rw[Nat.zero_add]at z0;try rw[Nat.zero_add]at z1;try rw[Nat.zero_add]at z2;try rw[Nat.zero_add]at z3)
           | (go_at_call 32;(with_reducible refine(KH.out _).mono ?_);rintro e2 w2 ⟨rfl,hb2⟩;replace hbk:=bt hbk hb2;clear hb2;obtain⟨q0,q0',q1,q1'⟩:=KF.out _ (bt hbA hbk))
           | fail)
          refine bodyPost_ret (v:=.tuple #[.slice av 2 cv,.int .i64 (k:Int),.agg #[.int .i64 0,.int .i64 0]]) (by simp[results,Tryz.results39,go_sem,q0,q1,q0',q1']) rfl ?_;rw[HR.out];refine⟨KEND.out _ _ _ (bt hbA hbk),_,rfl,?_⟩;show World.ownsRow _ _ _ _ _ ps.length _;rw[hp2];exact jc3 (jb5 (jb2 (jb2 ho (bal (Below.refl _ _) _)) hbk) fun q hq=>by
           have:=(jb7 (jb2 (jb2 ho (bal (Below.refl _ _) _)) hbk) q hq).1;have:=KWS.out;rw[Below.heap_setCell _ _ _ q (by simp;omega),Below.heap_setCell _ _ _ q (by simp;omega)]) HBW.out.size
        · have l5:¬(k:Int)+1<(n:Int):=by omega
          have KSEC:=Lib.hid ksec;have KMAL:=Lib.hid kmal;have HBW:=Lib.hid hbW;have HCU:=Lib.hid hcu;have HROW:=Lib.hid hrow;have HSM:=Lib.hid hsm;have HC0:=Lib.hid hc0;have HN:=Lib.hid hn';have HLEN:=Lib.hid hlen;have KJ:=Lib.hid kj;have KB:=Lib.hid kb;clear ksec kmal hbW hcu hrow hsm hc0 hn' hlen kj kb;clear hs2 hcm hlk
          go_enter Tryz.func39,Tryz.ntmps39
          go_wp2_with fail
          rw[←hW];clear hW
          go_wp2_with (first
           | (go_at_call 74;(with_reducible refine(KSEC.out _ HBW.out).mono ?_);rintro e1 w1 ⟨rfl,rfl⟩)
           | (go_at_call 63;(with_reducible refine(KJ.out _ _ HBW.out).mono ?_);rintro e1 w1 ⟨hb1,v,rfl,ho⟩;obtain⟨av,cv,rfl⟩:=jb4 ho;have hbA:=bal hb1 (.cells #[.int .i64 0,.int .i64 0] 54);have KFA:Hid (∀wz,Below (w1.alloc (.cells #[.int .i64 0,.int .i64 0] 54)).heap.size (w1.alloc (.cells #[.int .i64 0,.int .i64 0] 54)) wz→wz.cell? ⟨w1.heap.size,0,none⟩=some (.int .i64 0)∧wz.cell? ⟨w1.heap.size,1,none⟩=some (.int .i64 0)):=Lib.hid fun wz hb=>⟨((Live.fresh w1 #[.int .i64 0,.int .i64 0] 54 0 _ rfl).keep hb).1,((Live.fresh w1 #[.int .i64 0,.int .i64 0] 54 1 _ rfl).keep hb).1⟩;have hbk:=Below.refl (w1.alloc (.cells #[.int .i64 0,.int .i64 0] 54)).heap.size (w1.alloc (.cells #[.int .i64 0,.int .i64 0] 54));clear hb1)
           | (go_at_call 16;refine(KB.out _).mono ?_;rintro e2 w2 ⟨rfl,hb2⟩;replace hbk:=bt hbk hb2;clear hb2;obtain⟨f0,f1⟩:=KFA.out _ hbk;obtain⟨q0,q0',q1,q1'⟩:=KF.out _ (bt hbA hbk))
           | fail)
          refine bodyPost_ret (v:=.tuple #[.slice av 2 cv,.int .i64 (k:Int),.agg #[.int .i64 0,.int .i64 0]]) (by simp[results,Tryz.results39,go_sem,q0,q1,q0',q1']) rfl ?_;rw[HR.out];refine⟨KEND.out _ _ _ (bt hbA hbk),_,rfl,?_⟩;show World.ownsRow _ _ _ _ _ ps.length _;rw[hp2];exact jc3 (jb5 (jb2 (jb2 ho (bal (Below.refl _ _) _)) hbk) fun q hq=>by
           have:=(jb7 (jb2 (jb2 ho (bal (Below.refl _ _) _)) hbk) q hq).1;have:=KWS.out;rw[Below.heap_setCell _ _ _ q (by simp;omega),Below.heap_setCell _ _ _ q (by simp;omega)]) HBW.out.size
    · rw[if_pos (.inr hp2)]at hR
      generalize scells (ps.map toB)=cs at *;generalize ps.length=m at *;have m1:((m:Int)==2)=false:=by rw[beq_eq_false_iff_ne];omega
      have m2:(m==2)=false:=by rw[beq_eq_false_iff_ne];omega
      have m3:¬(m:Int)=2:=by omega
      clear hp2;have hx:=km0 at_ (k) (by omega);obtain⟨ga,oa,hae,ca⟩:=hcu _ _ hx;subst hae;have KAT:Hid (∀wz,Below W.heap.size W wz→wz.cell? ⟨ga,oa+(k),none⟩=some (.int .i64 ((at_.getD (k) 0:Nat):Int))):=Lib.hid fun wz hb=>kc hb (kc hbW ca)
      clear hx ca;obtain⟨A,hA⟩:∃A:Int,A=((at_.getD (k) 0:Nat):Int):=⟨_,rfl⟩;rw[←hA]at KAT;have HA:=Lib.hid hA;have HR:=Lib.hid hR;clear hA hR;have KSEC:=Lib.hid ksec;have KMAL:=Lib.hid kmal;have HBW:=Lib.hid hbW;have HCU:=Lib.hid hcu;have HROW:=Lib.hid hrow;have HSM:=Lib.hid hsm;have HC0:=Lib.hid hc0;have HN:=Lib.hid hn';have HLEN:=Lib.hid hlen;have KJ:=Lib.hid kj;have KB:=Lib.hid kb;clear ksec kmal hbW hcu hrow hsm hc0 hn' hlen kj kb;clear hs2 hcm hlk
      go_enter Tryz.func39,Tryz.ntmps39
      go_wp2_with fail
      rw[←hW];clear hW
      go_wp2_with (first
       | (go_at_call 74;(with_reducible refine(KSEC.out _ HBW.out).mono ?_);rintro e1 w1 ⟨rfl,rfl⟩)
       | (go_at_call 63;(with_reducible refine(KJ.out _ _ HBW.out).mono ?_);rintro e1 w1 ⟨hb1,v,rfl,ho⟩;obtain⟨av,cv,rfl⟩:=jb4 ho;have hbA:=bal hb1 (.cells #[.int .i64 0,.int .i64 0] 54);have KFA:Hid (∀wz,Below (w1.alloc (.cells #[.int .i64 0,.int .i64 0] 54)).heap.size (w1.alloc (.cells #[.int .i64 0,.int .i64 0] 54)) wz→wz.cell? ⟨w1.heap.size,0,none⟩=some (.int .i64 0)∧wz.cell? ⟨w1.heap.size,1,none⟩=some (.int .i64 0)):=Lib.hid fun wz hb=>⟨((Live.fresh w1 #[.int .i64 0,.int .i64 0] 54 0 _ rfl).keep hb).1,((Live.fresh w1 #[.int .i64 0,.int .i64 0] 54 1 _ rfl).keep hb).1⟩;have hbk:=Below.refl (w1.alloc (.cells #[.int .i64 0,.int .i64 0] 54)).heap.size (w1.alloc (.cells #[.int .i64 0,.int .i64 0] 54));clear hb1)
       | (go_at_call 16;refine(KB.out _).mono ?_;rintro e2 w2 ⟨rfl,hb2⟩;replace hbk:=bt hbk hb2;clear hb2;obtain⟨f0,f1⟩:=KFA.out _ hbk;have ca:=KAT.out _ (bt hbA hbk))
       | (go_at_call 38;(with_reducible refine(KMAL.out _ _).mono ?_);rintro e2 w2 ⟨rfl,hb2⟩;replace hbk:=bt hbk hb2;clear hb2;obtain⟨q0,q0',q1,q1'⟩:=KF.out _ (bt hbA hbk))
       | fail)
      refine bodyPost_ret (v:=.tuple #[.slice none 0 0,.int .i64 0,.agg #[.int .i64 1,.int .i64 A]]) (by simp[results,Tryz.results39,go_sem,q0,q1,q0',q1']) rfl ?_;rw[HR.out];refine⟨KEND.out _ _ _ (bt hbA hbk),?_⟩;show Ending.returned _=Ending.returned _;rw[HA.out]
  · rw[show(!decide ((1:Int)=0))=true from rfl]at kb
    generalize scells (ps.map toB)=cs at *;generalize ps.length=m at *;by_cases hjk:j<k
    · rw[if_pos ⟨by decide,by omega⟩,show((j:Int)).toNat=j from rfl]at hR
      have l5:(j:Int)<(k:Int):=by omega
      have hwj:IntKind.i64.wrap (1+(j:Int))=((1+j:Nat):Int):=by rw[wi64 _ (by omega) (by omega)];omega
      have l6:((1+j:Nat):Int)<(n:Int):=by omega
      have hx:=km0 at_ (1+j) (by omega);obtain⟨ga,oa,hae,ca⟩:=hcu _ _ hx;subst hae;have KAT:Hid (∀wz,Below W.heap.size W wz→wz.cell? ⟨ga,oa+(1+j),none⟩=some (.int .i64 ((at_.getD (1+j) 0:Nat):Int))):=Lib.hid fun wz hb=>kc hb (kc hbW ca)
      clear hx ca;obtain⟨A,hA⟩:∃A:Int,A=((at_.getD (1+j) 0:Nat):Int):=⟨_,rfl⟩;rw[←hA]at KAT;have HA:=Lib.hid hA;have HR:=Lib.hid hR;clear hA hR;have KSEC:=Lib.hid ksec;have KMAL:=Lib.hid kmal;have HBW:=Lib.hid hbW;have HCU:=Lib.hid hcu;have HROW:=Lib.hid hrow;have HSM:=Lib.hid hsm;have HC0:=Lib.hid hc0;have HN:=Lib.hid hn';have HLEN:=Lib.hid hlen;have KJ:=Lib.hid kj;have KB:=Lib.hid kb;clear ksec kmal hbW hcu hrow hsm hc0 hn' hlen kj kb;clear hs2 hcm hlk
      go_enter Tryz.func39,Tryz.ntmps39
      go_wp2_with fail
      rw[←hW];clear hW
      go_wp2_with (first
       | (go_at_call 74;(with_reducible refine(KSEC.out _ HBW.out).mono ?_);rintro e1 w1 ⟨rfl,rfl⟩)
       | (go_at_call 63;(with_reducible refine(KJ.out _ _ HBW.out).mono ?_);rintro e1 w1 ⟨hb1,v,rfl,ho⟩;obtain⟨av,cv,rfl⟩:=jb4 ho;have hbA:=bal hb1 (.cells #[.int .i64 1,.int .i64 (j:Int)] 54);have KFA:Hid (∀wz,Below (w1.alloc (.cells #[.int .i64 1,.int .i64 (j:Int)] 54)).heap.size (w1.alloc (.cells #[.int .i64 1,.int .i64 (j:Int)] 54)) wz→wz.cell? ⟨w1.heap.size,0,none⟩=some (.int .i64 1)∧wz.cell? ⟨w1.heap.size,1,none⟩=some (.int .i64 (j:Int))):=Lib.hid fun wz hb=>⟨((Live.fresh w1 #[.int .i64 1,.int .i64 (j:Int)] 54 0 _ rfl).keep hb).1,((Live.fresh w1 #[.int .i64 1,.int .i64 (j:Int)] 54 1 _ rfl).keep hb).1⟩;have hbk:=Below.refl (w1.alloc (.cells #[.int .i64 1,.int .i64 (j:Int)] 54)).heap.size (w1.alloc (.cells #[.int .i64 1,.int .i64 (j:Int)] 54));clear hb1)
       | (go_at_call 16;refine(KB.out _).mono ?_;rintro e2 w2 ⟨rfl,hb2⟩;replace hbk:=bt hbk hb2;clear hb2;obtain⟨f0,f1⟩:=KFA.out _ hbk;have ca:=KAT.out _ (bt hbA hbk))
       | (go_at_call 38;(with_reducible refine(KMAL.out _ _).mono ?_);rintro e2 w2 ⟨rfl,hb2⟩;replace hbk:=bt hbk hb2;clear hb2;obtain⟨q0,q0',q1,q1'⟩:=KF.out _ (bt hbA hbk))
       | fail)
      refine bodyPost_ret (v:=.tuple #[.slice none 0 0,.int .i64 0,.agg #[.int .i64 1,.int .i64 A]]) (by simp[results,Tryz.results39,go_sem,q0,q1,q0',q1']) rfl ?_;rw[HR.out];refine⟨KEND.out _ _ _ (bt hbA hbk),?_⟩;show Ending.returned _=Ending.returned _;rw[HA.out]
    · rw[if_neg (by rintro⟨_,h⟩;omega),if_pos (.inl (by decide))]at hR
      have l5:¬(j:Int)<(k:Int):=by omega
      clear hjk;have hx:=km0 at_ (k) (by omega);obtain⟨ga,oa,hae,ca⟩:=hcu _ _ hx;subst hae;have KAT:Hid (∀wz,Below W.heap.size W wz→wz.cell? ⟨ga,oa+(k),none⟩=some (.int .i64 ((at_.getD (k) 0:Nat):Int))):=Lib.hid fun wz hb=>kc hb (kc hbW ca)
      clear hx ca;obtain⟨A,hA⟩:∃A:Int,A=((at_.getD (k) 0:Nat):Int):=⟨_,rfl⟩;rw[←hA]at KAT;have HA:=Lib.hid hA;have HR:=Lib.hid hR;clear hA hR;have KSEC:=Lib.hid ksec;have KMAL:=Lib.hid kmal;have HBW:=Lib.hid hbW;have HCU:=Lib.hid hcu;have HROW:=Lib.hid hrow;have HSM:=Lib.hid hsm;have HC0:=Lib.hid hc0;have HN:=Lib.hid hn';have HLEN:=Lib.hid hlen;have KJ:=Lib.hid kj;have KB:=Lib.hid kb;clear ksec kmal hbW hcu hrow hsm hc0 hn' hlen kj kb;clear hs2 hcm hlk
      go_enter Tryz.func39,Tryz.ntmps39
      go_wp2_with fail
      rw[←hW];clear hW
      go_wp2_with (first
       | (go_at_call 74;(with_reducible refine(KSEC.out _ HBW.out).mono ?_);rintro e1 w1 ⟨rfl,rfl⟩)
       | (go_at_call 63;(with_reducible refine(KJ.out _ _ HBW.out).mono ?_);rintro e1 w1 ⟨hb1,v,rfl,ho⟩;obtain⟨av,cv,rfl⟩:=jb4 ho;have hbA:=bal hb1 (.cells #[.int .i64 1,.int .i64 (j:Int)] 54);have KFA:Hid (∀wz,Below (w1.alloc (.cells #[.int .i64 1,.int .i64 (j:Int)] 54)).heap.size (w1.alloc (.cells #[.int .i64 1,.int .i64 (j:Int)] 54)) wz→wz.cell? ⟨w1.heap.size,0,none⟩=some (.int .i64 1)∧wz.cell? ⟨w1.heap.size,1,none⟩=some (.int .i64 (j:Int))):=Lib.hid fun wz hb=>⟨((Live.fresh w1 #[.int .i64 1,.int .i64 (j:Int)] 54 0 _ rfl).keep hb).1,((Live.fresh w1 #[.int .i64 1,.int .i64 (j:Int)] 54 1 _ rfl).keep hb).1⟩;have hbk:=Below.refl (w1.alloc (.cells #[.int .i64 1,.int .i64 (j:Int)] 54)).heap.size (w1.alloc (.cells #[.int .i64 1,.int .i64 (j:Int)] 54));clear hb1)
       | (go_at_call 16;refine(KB.out _).mono ?_;rintro e2 w2 ⟨rfl,hb2⟩;replace hbk:=bt hbk hb2;clear hb2;obtain⟨f0,f1⟩:=KFA.out _ hbk;have ca:=KAT.out _ (bt hbA hbk))
       | (go_at_call 38;(with_reducible refine(KMAL.out _ _).mono ?_);rintro e2 w2 ⟨rfl,hb2⟩;replace hbk:=bt hbk hb2;clear hb2;obtain⟨q0,q0',q1,q1'⟩:=KF.out _ (bt hbA hbk))
       | fail)
      refine bodyPost_ret (v:=.tuple #[.slice none 0 0,.int .i64 0,.agg #[.int .i64 1,.int .i64 A]]) (by simp[results,Tryz.results39,go_sem,q0,q1,q0',q1']) rfl ?_;rw[HR.out];refine⟨KEND.out _ _ _ (bt hbA hbk),?_⟩;show Ending.returned _=Ending.returned _;rw[HA.out]
theorem jt0:(Value.agg #[.int .u8 0,.int .u64 0,.int .u32 0,.int .u32 0,.string ⟨#[]⟩,.string ⟨#[]⟩]).cells.size=6:=rfl
theorem jg9(l:List PG):∀u∈gcells l,u.oneCell'=true:=by
 intro u hu;unfold gcells at hu;obtain⟨p,_,hm⟩:=List.mem_flatMap.1 hu;unfold g1cells at hm;simp only[List.mem_cons,List.not_mem_nil,or_false]at hm;rcases hm with rfl|rfl|rfl|rfl|rfl|rfl<;>rfl
theorem jq9(g o j:Nat):(⟨g,o,none⟩:Addr).add j=⟨g,o+j,none⟩:=by
 by_cases h0:j=0
 · subst h0;rfl
 · simp[Addr.add,h0]
set_option maxRecDepth 100000 in
theorem kw0(g o n cap:Nat)(l:List PG)(w:World)(hl:l.length=n)(hc:∀(j:Nat) (x:Value),(gcells l)[j]?=some x→w.cell? ⟨g,o+j,none⟩=some x)(hn:n≤2000000):
 Calls Tryz.prog 44 #[.slice (some ⟨g,o,none⟩) n cap] w fun e w'=>∃v',e=.returned v'∧w'.ownsRow w.heap.size 27 6 v' n (gcells l)∧Below w.heap.size w w':=by
 obtain⟨i0,hi,hz0,hz1,hz2⟩:=info_parts jf6;have hlen:=jf0 l;rw[hl]at hlen;have h1:=jg9 l;have hlit:(w.alloc (.cells #[] 27)).ownsRow w.heap.size 27 6 (.slice (some ⟨w.heap.size,0,none⟩) 0 0) 0 []:=
  World.ownsRow_lit (base:=w.heap.size) (e:=27) (size:=6) w #[] 0 (Nat.le_refl _) (by unfold maxLen;omega) rfl
 have hbA:Below w.heap.size w (w.alloc (.cells #[] 27)):=bal (Below.refl _ _) _;have hc':∀j u,(gcells l)[j]?=some u→(w.alloc (.cells #[] 27)).cell? ((⟨g,o,none⟩:Addr).add j)=some u:=fun j u hj=>by
  rw[jq9];exact kc hbA (hc j u hj)
 generalize gcells l=cs at *;have HC:=Lib.hid hc';have HLIT:=Lib.hid hlit;have H1:=Lib.hid h1;have HL:=Lib.hid hlen;clear hc' hlit h1 hlen;clear hc hl
 go_enter Tryz.func44,Tryz.ntmps44
 have hnil:=fun w=>Lib.run_eql_slice_nil (P:=Tryz.prog) w 34 27 (some ⟨g,o,none⟩) n cap 0 0 Tryz.underlying34
 go_wp2_with (at_builtin;(refine wpList_append_own _ rfl _ _ 34 rfl w.heap.size 27 i0 (.agg #[.int .u8 0,.int .u64 0,.int .u32 0,.int .u32 0,.string ⟨#[]⟩,.string ⟨#[]⟩]) 6 56 Tryz.underlying34 hi hz0 hz1 hz2 jt0 (by decide) (.slice (some ⟨w.heap.size,0,none⟩) 0 0) 0 [] rfl HLIT.out ⟨g,o,none⟩ n cap cs rfl HL.out HC.out H1.out (by unfold maxLen;omega) (by omega) hbA.size ?_;intro v' w1 h2 h3 _))
 have hb:Below w.heap.size w w1:=hbA.grown h3 hbA.size (by intro k hk;simp[Value.ownBlock]at hk;omega);rw[Nat.zero_add,List.nil_append]at h2
 go_wp2_with fail
 go_ret
 exact⟨v',rfl,h2,hb⟩
theorem qj2(l:List Mt)(m:Mt):mtcells (l ++ [m])=mtcells l++(#[.int .u8 m.kind,.string m.body]:Array Value).toList:=by rw[kq7];rfl
section
variable {w wr:World} {r H:Nat} {kd fb bu:Int} {g:Bool} {f:Fl} {vm vb:Value}
end
theorem infoRN:(Tryz.prog.info? 42).map (fun i=>(i.zero,i.size,i.bytes))=some (some (.agg #[.string ⟨#[]⟩,.string ⟨#[]⟩,.int .i64 0]),3,40):=by kernel_rfl
theorem qb1(l:List Nt)(n:Nt):ntcells (l ++ [n])=ntcells l++(#[.string n.name,.string n.text,.int .i64 n.set]:Array Value).toList:=by rw[jv8];rfl
set_option maxRecDepth 100000 in
theorem lof_any(v:Value)(b:Bk)(w:World)(hrow:Row w v b.ns.length (ntcells b.ns))(hok:smBk b)(hnl:b.ns.length≤1000000):
 Calls Tryz.prog 20 #[.agg #[.string b.vt,.int .i64 b.vs,v]] w fun e w'=>∃v',e=.returned (.agg #[.string ⟨#[]⟩,.string b.vt,.int .i64 b.vs,v'])∧w'.ownsRow w.heap.size 42 3 v' b.ns.length (ntcells b.ns)∧Below w.heap.size w w':=by
 obtain⟨vt,vs,ns⟩:=b;obtain⟨av,cap,rfl,hc⟩:=hrow;obtain⟨o1,o2,o3⟩:=hok;simp only at o1 o2 o3 hc hnl ⊢;obtain⟨n,hn⟩:∃n,n=ns.length:=⟨_,rfl⟩;rw[←hn]at o2 hnl ⊢;obtain⟨W,hW⟩:∃W,W=(w.alloc (.cells #[.string vt,.int .i64 vs,.slice av n cap] 33)).alloc (.cells #[.string ⟨#[]⟩,.string ⟨#[]⟩,.int .i64 0,.slice none 0 0] 45):=⟨_,rfl⟩;have hs1:(w.alloc (.cells #[.string vt,.int .i64 vs,.slice av n cap] 33)).heap.size=w.heap.size+1:=World.size_alloc _ _;have hWs:W.heap.size=w.heap.size+1+1:=by rw[hW,World.size_alloc,World.size_alloc]
 have hbW:Below w.heap.size w W:=by rw[hW];exact bal (bal (Below.refl _ _) _) _
 have lc:∀(i:Nat) (u:Value),(#[.string vt,.int .i64 vs,.slice av n cap]:Array Value)[i]?=some u→W.cell? ⟨w.heap.size,i,none⟩=some u:=by
  intro i u hu;rw[hW];exact((Live.fresh w _ 33 i u hu).alloc _).1
 have hres:W.heap[w.heap.size+1]?=some (.cells #[.string ⟨#[]⟩,.string ⟨#[]⟩,.int .i64 0,.slice none 0 0] 45 (0,0)):=by
  rw[hW,←hs1];exact heap_alloc_new _ _
 have c0:=lc 0 _ rfl;have c1:=lc 1 _ rfl;have c2:=lc 2 _ rfl;clear lc hs1;have HC:=Lib.hid hc;have HN:=Lib.hid hn;have O3:=Lib.hid o3;have HBW:=Lib.hid hbW;have HRES:=Lib.hid hres;have HWS:=Lib.hid hWs;clear hc hn o3 hbW hres hWs
 go_enter Tryz.func20,Tryz.ntmps20
 go_wp2_with fail
 rw[←hW];clear hW
 go_wp2_with fail
 have hM:(W.alloc (.cells #[.string ⟨#[]⟩,.string vt,.int .i64 vs,.slice none 0 0] 45)).heap[w.heap.size+1+1]?=some (.cells #[.string ⟨#[]⟩,.string vt,.int .i64 vs,.slice none 0 0] 45 (0,0)):=by rw[←HWS.out];exact heap_alloc_new _ _
 go_loopw [17] (fun iv wr=>∃(k:Nat) (v':Value),iv=.int .i64 (k:Int)∧k≤n∧wr.heap[w.heap.size+1+1]?=some (.cells #[.string ⟨#[]⟩,.string vt,.int .i64 vs,v'] 45 (0,0))∧wr.ownsRow (W.heap.size+1) 42 3 v' k (ntcells (ns.take k))∧Below W.heap.size W wr) (fun iv _=>n-(intOf iv).toNat)
 case atStart=>exact⟨0,.slice none 0 0,rfl,Nat.zero_le _,hM,World.ownsRow_nil _ _ _ _,bal (Below.refl _ _) _⟩
 case round=>
  obtain⟨k,v',rfl,hk,hMb,hown,hbel⟩:=hrel;clear hM c2;obtain⟨av',cv',rfl⟩:=jb4 hown;obtain⟨p0,p0'⟩:=jb0 hMb 0 _ rfl;obtain⟨p1,p1'⟩:=jb0 hMb 1 _ rfl;obtain⟨p2,p2'⟩:=jb0 hMb 2 _ rfl;obtain⟨p3,p3'⟩:=jb0 hMb 3 _ rfl;have hML:=(Array.getElem?_eq_some_iff.1 hMb).1;by_cases hlt:k<n
  · obtain⟨x,hx⟩:=jb6 ns k (by rw[←HN.out];exact hlt)
    obtain⟨g,o,rfl,d0,d1,d2⟩:=qb2 HC.out k x hx;have d0:=kc hbel (kc HBW.out d0);have d1:=kc hbel (kc HBW.out d1);have d2:=kc hbel (kc HBW.out d2);obtain⟨hx1,hx2⟩:=List.getElem?_eq_some_iff.1 hx;have htk:ns.take (k+1)=ns.take k ++ [x]:=by rw[List.take_succ_eq_append_getElem hx1,hx2]
    have hba:=bal hbel (.cells #[.string x.name,.string x.text,.int .i64 x.set] 102);have hown1:=jb2 hown ((Below.refl wr.heap.size wr).alloc (Nat.le_refl _) (.cells #[.string x.name,.string x.text,.int .i64 x.set] 102));have hMb1:(wr.alloc (.cells #[.string x.name,.string x.text,.int .i64 x.set] 102)).heap[w.heap.size+1+1]?=_:=(heap_alloc_old _ _ hML).trans hMb;have hz3:k<70368744177664:=by omega
    have hz5:(k+1)*40≤140737488355328:=by omega
    obtain⟨p3a,p3a'⟩:=jb0 hMb1 3 _ rfl;have HBA:=Lib.hid hba;have HO1:=Lib.hid hown1;have HZ3:=Lib.hid hz3;have HZ5:=Lib.hid hz5;have HTK:=Lib.hid htk;have HMB1:=Lib.hid hMb1;clear hba hown1 hz3 hz5 htk hMb1;clear hx1 hx2 hx hMb
    go_wp2_with (first
     | (at_builtin;(refine jc4 rfl _ _ 43 42 rfl Tryz.underlying43 (.agg #[.string ⟨#[]⟩,.string ⟨#[]⟩,.int .i64 0]) 3 40 infoRN rfl (by decide) (wr.alloc (.cells #[.string x.name,.string x.text,.int .i64 x.set] 102)) (W.heap.size+1) (.slice av' k cv') k (ntcells (ns.take k)) rfl HO1.out #[.string x.name,.string x.text,.int .i64 x.set] rfl (by simp[Value.oneCell']) (by show Value.slice (some ⟨wr.heap.size+1,0,none⟩) 1 1=Value.slice (some ⟨(wr.alloc _).heap.size,0,none⟩) 1 1;rw[World.size_alloc]) HZ3.out HZ5.out (by have:=HWS.out;simp;omega) ?_;intro v7 w7 hown7 hb7 hk7;obtain⟨av7,cv7,rfl⟩:=jb4 hown7;have hMb7:=(hb7.block (w.heap.size+1+1) (by have:=HWS.out;omega)).trans HMB1.out;obtain⟨r3,r3'⟩:=jb0 hMb7 3 _ rfl)))
    have h8:=Go.Lib.heap_setCell_same (i:=3) hMb7 (.slice av7 (k+1) cv7);have hown8:(w7.setCell ⟨w.heap.size+1+1,3,none⟩ (.slice av7 (k+1) cv7)).ownsRow (W.heap.size+1) 42 3 (.slice av7 (k+1) cv7) (k+1) (ntcells (ns.take (k+1))):=by
     rw[HTK.out,qb1];exact jb5 hown7 fun q hq=>Below.heap_setCell _ _ _ q (by have:=(jb7 hown7 q hq).1;have:=HWS.out;simp;omega)
    have hb8:Below W.heap.size W (w7.setCell ⟨w.heap.size+1+1,3,none⟩ (.slice av7 (k+1) cv7)) 
     := (HBA.out.trans (hb7.mono (by omega))).setCell (by have:=HWS.out;simp;omega) _
    go_roundw
    case rel=>exact⟨k+1,_,by go_num,by omega,by rw[h8];simp,hown8,hb8⟩
    case measure=>simp[intOf];omega
  · have hkn:k=n:=by omega
    have htk:ns.take k=ns:=List.take_of_length_le (by rw[←HN.out];omega);rw[htk]at hown;have hres2:=(hbel.block (w.heap.size+1) (by rw[HWS.out];omega)).trans HRES.out;obtain⟨q0,q0'⟩:=jb0 hres2 0 _ rfl;obtain⟨q1,q1'⟩:=jb0 hres2 1 _ rfl;obtain⟨q2,q2'⟩:=jb0 hres2 2 _ rfl;obtain⟨q3,q3'⟩:=jb0 hres2 3 _ rfl;have hwz:=HWS.out;have HKN:=Lib.hid hkn;clear hkn
    go_wp2_with fail
    refine bodyPost_ret (v:=.agg #[.string ⟨#[]⟩,.string vt,.int .i64 vs,.slice av' k cv']) (by simp[results,Tryz.results20,go_sem,q0,q1,q2,q3,q0',q1',q2',q3']) rfl ?_;have hgz:=jb3 (jb3 (jb3 (jc0 wr (w.heap.size+1) 0 (.string ⟨#[]⟩)) (jc0 _ (w.heap.size+1) 1 (.string vt))) (jc0 _ (w.heap.size+1) 2 (.int .i64 vs))) (jc0 _ (w.heap.size+1) 3 (.slice av' k cv'));obtain rfl:=HKN.out;refine⟨_,rfl,jc3 (jb5 hown fun q hq=>?_) (by omega),?_⟩
    · exact hgz.block q (jb7 hown q hq).2 (by have:=(jb7 hown q hq).1;simp;omega)
    · exact((((HBW.out.trans (hbel.mono HBW.out.size)).setCell (by simp) _).setCell (by simp) _).setCell (by simp) _).setCell (by simp) _
theorem eqNote0(x y:ByteArray)(z:Int)(w:World):(Op.equalIn 10000 42 (.agg #[.string x,.string y,.int .i64 z]) (.agg #[.string x,.string y,.int .i64 z])).run Tryz.prog w=.ok true w:=by
 have hS:Tryz.prog.underlying 42=some (.struct (Tryz.prog.fieldsOf 42)):=by kernel_rfl
 have hp:Tryz.prog.stoodInHeld 42=false:=by kernel_rfl
 rw[show(10000:Nat)=9999+1 from rfl,run_equalIn_agg w 9999 42 _ _ hS hp];simp only[Program.fieldsOf,Tryz.underlying42];simp[go_sem,Op.eqFields]
theorem vz6(x y:ByteArray)(z:Int)(w:World):(binOp .neq 42 (.agg #[.string x,.string y,.int .i64 z]) (.agg #[.string x,.string y,.int .i64 z])).run Tryz.prog w=.ok (.bool false) w:=by
 rw[run_neq_struct,eqNote0];rfl
theorem qk7(op:BinOp)(x y:Operand)(xs ys:Array Value)(w:World):(eqGuard op 42 x y (.agg xs) (.agg ys)).run Tryz.prog w=.ok () w:=run_eqGuard_agg w op 42 x y xs ys (by kernel_rfl)
def likeBk(a b:Bk):Prop:=a.vt=b.vt∧a.ns.length=b.ns.length∧∀(k:Nat) (x y:Nt),a.ns[k]?=some x→b.ns[k]?=some y→x.name=y.name∧x.text=y.text
set_option maxRecDepth 100000 in
theorem xb2(va vb:Value)(a b:Bk)(w:World)(hra:Row w va a.ns.length (ntcells a.ns))(hrb:Row w vb b.ns.length (ntcells b.ns))(hl:likeBk a b)(hnl:a.ns.length≤1000000):
 Calls Tryz.prog 46 #[.agg #[.string ⟨#[]⟩,.string a.vt,.int .i64 a.vs,va],.agg #[.string ⟨#[]⟩,.string b.vt,.int .i64 b.vs,vb],.bool false] w fun e w'=>e=.returned (.bool true)∧Below w.heap.size w w':=by
 obtain⟨vt,sa,la⟩:=a;obtain⟨vt',sb,lb⟩:=b;obtain⟨hv,hlen,hnt⟩:=hl;simp only at hv hlen hnt hra hrb hnl ⊢;subst hv;obtain⟨n,hn⟩:∃n,n=la.length:=⟨_,rfl⟩;rw[←hlen,←hn]at hrb;rw[←hn]at hra hnl;obtain⟨aa,ca,rfl,hca⟩:=hra;obtain⟨ab,cb,rfl,hcb⟩:=hrb;obtain⟨W,hW⟩:∃W,W=(w.alloc (.cells #[.string ⟨#[]⟩,.string vt,.int .i64 0,.slice aa n ca] 45)).alloc (.cells #[.string ⟨#[]⟩,.string vt,.int .i64 0,.slice ab n cb] 45):=⟨_,rfl⟩;have hs1:(w.alloc (.cells #[.string ⟨#[]⟩,.string vt,.int .i64 0,.slice aa n ca] 45)).heap.size=w.heap.size+1:=World.size_alloc _ _;have hbW:Below w.heap.size w W:=by rw[hW];exact bal (bal (Below.refl _ _) _) _
 have la3:Live W w.heap.size 3 (.slice aa n ca):=by rw[hW];exact(Live.fresh _ _ _ 3 _ rfl).alloc _
 have lb3:Live W (w.heap.size+1) 3 (.slice ab n cb):=by rw[hW,←hs1];exact Live.fresh _ _ _ 3 _ rfl
 have e1:=fun w=>vz6 ⟨#[]⟩ vt 0 w
 have g1:=fun x y w=>qk7 .neq x y #[.string ⟨#[]⟩,.string vt,.int .i64 0] #[.string ⟨#[]⟩,.string vt,.int .i64 0] w
 have HCA:=Lib.hid hca;have HCB:=Lib.hid hcb;have HNT:=Lib.hid hnt;have HLEN:=Lib.hid hlen;have HN:=Lib.hid hn;have HBW:=Lib.hid hbW;have LA3:=Lib.hid la3;have LB3:=Lib.hid lb3;clear hca hcb hnt hlen hn hbW la3 lb3;clear hs1
 go_enter Tryz.func46,Tryz.ntmps46
 go_wp2_with fail
 rw[←hW];clear hW e1 g1
 go_loopw [33] (fun iv wr=>∃k:Nat,iv=.int .i64 (k:Int)∧k≤n∧Below W.heap.size W wr) (fun iv _=>n-(intOf iv).toNat)
 case atStart=>exact⟨0,rfl,Nat.zero_le _,Below.refl _ _⟩
 case round=>
  obtain⟨k,rfl,hk,hbel⟩:=hrel;by_cases hlt:k<n
  · obtain⟨x,hx⟩:=jb6 la k (by rw[←HN.out];exact hlt)
    obtain⟨y,hy⟩:=jb6 lb k (by rw[←HLEN.out,←HN.out];exact hlt);obtain⟨q1,q2⟩:=HNT.out k x y hx hy;obtain⟨ga,oa,rfl,a0,a1,a2⟩:=qb2 HCA.out k x hx;obtain⟨gb,ob,rfl,b0,b1,b2⟩:=qb2 HCB.out k y hy;rw[←q1]at b0;rw[←q2]at b1;have a0:=kc hbel (kc HBW.out a0);have a1:=kc hbel (kc HBW.out a1);have a2:=kc hbel (kc HBW.out a2);have b0:=kc hbel (kc HBW.out b0);have b1:=kc hbel (kc HBW.out b1);have b2:=kc hbel (kc HBW.out b2);have c3:=kc hbel LA3.out.1;have d3:=kc hbel LB3.out.1;have m0:(0:Int)≤(k:Int):=by omega
    have m1:(k:Int)<(n:Int):=by omega
    have e1:=fun w=>vz6 x.name x.text 0 w
    have g1:=fun p q w=>qk7 .neq p q #[.string x.name,.string x.text,.int .i64 0] #[.string x.name,.string x.text,.int .i64 0] w
    generalize x.name=xn at *;generalize x.text=xt at *;generalize x.set=xs at *;generalize y.set=ys at *;have n0:=World.new_ne _ _ a0;have n1:=World.new_ne _ _ b0;have n2:=World.new_ne _ _ c3;have n3:=World.new_ne _ _ d3;clear hx hy q1 q2
    go_wp2_with fail
    go_region_held3 (fun w'=>w'.cell? ⟨w.heap.size,3,none⟩=some (.slice (some ⟨ga,oa,none⟩) n ca)∧w'.cell? ⟨w.heap.size+1,3,none⟩=some (.slice (some ⟨gb,ob,none⟩) n cb)∧w'.cell? ⟨ga,oa+k*3,none⟩=some (.string xn)∧w'.cell? ⟨ga,oa+k*3+1,none⟩=some (.string xt)∧w'.cell? ⟨ga,oa+k*3+2,none⟩=some (.int .i64 xs)∧w'.cell? ⟨gb,ob+k*3,none⟩=some (.string xn)∧w'.cell? ⟨gb,ob+k*3+1,none⟩=some (.string xt)∧w'.cell? ⟨gb,ob+k*3+2,none⟩=some (.int .i64 ys)) (go_keep) (fail)
    all_goals
     go_wp2_with fail
     exact⟨⟨k+1,by go_num,by omega,(bal (bal hbel _) _).drew⟩,by simp[intOf];omega⟩
  · have hbz:=HBW.out.trans (hbel.mono HBW.out.size)
    have m1:¬(k:Int)<(n:Int):=by omega
    have HBZ:=Lib.hid hbz;clear hbz
    go_wp2_with fail
    go_ret
    exact⟨rfl,HBZ.out⟩
theorem xb4(b:Bk):likeBk b (utfBk b):=by
 refine⟨rfl,by simp[utfBk],fun k x y hx hy=>?_⟩;simp only[utfBk,List.getElem?_map,hx,Option.map_some,Option.some.injEq]at hy;subst hy;exact⟨rfl,rfl⟩
def likeOS(a b:OS):Prop:=a.first=b.first∧a.setup=b.setup∧likeBk a.b b.b∧a.sound.length=b.sound.length∧∀(k:Nat) (x y:PG),a.sound[k]?=some x→b.sound[k]?=some y → { x with nu:=0 } = { y with nu:=0 }
theorem xb5(s:OS):likeOS s (backO s):=by
 refine⟨rfl,rfl,xb4 _,(jh2 _ _).symm,fun k x y hx hy=>?_⟩;obtain⟨q,hq,rfl⟩:=jm0 _ _ _ _ hy;rw[hx,Option.some.injEq]at hq;rw[hq]
theorem like_sym{a b:OS}(h:likeOS a b):likeOS b a:=by
 obtain⟨h1,h2,⟨h3,h4,h5⟩,h6,h7⟩:=h;exact⟨h1.symm,h2.symm,⟨h3.symm,h4.symm,fun k x y hx hy=>⟨(h5 k y x hy hx).1.symm,(h5 k y x hy hx).2.symm⟩⟩,h6.symm,fun k x y hx hy=>(h7 k y x hy hx).symm⟩
end Go.Proofs.YtagjkmkmphamoaaGreatDoor
