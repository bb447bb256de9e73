/- Rx -/
import Derived.Test.YtagjkmkmphamoaaGreatDoorPRw
set_option linter.all false
set_option maxHeartbeats 8000000
namespace Go.Proofs.YtagjkmkmphamoaaGreatDoor
open Go.RowKit
def RP.fin(r:RP):Int:=r.fr+r.ct
def ovF:Nat→List RP→RP→Nat→Int→List RP→Nat×List RP
 | 0,_,_,i,_,acc=>(i,acc)
 | f+1,A,r,i,a,acc=>if ¬a<r.fin then(i,acc)else match A[i]? with
  | none=>ovF f A r i r.fin (acc ++ [r.part a r.fin])
  | some q=>if q.fin≤a then ovF f A r (i+1) a acc
   else if q.fr≤a then ovF f A r i (min r.fin q.fin) acc
   else ovF f A r i (min r.fin q.fr) (acc ++ [r.part a (min r.fin q.fr)])
def ovAll(A:List RP):List RP→Nat→List RP→List RP
 | [],_,acc=>acc
 | r::rs,i,acc=>ovAll A rs (ovF (r.ct.toNat+A.length+1) A r i r.fr acc).1 (ovF (r.ct.toNat+A.length+1) A r i r.fr acc).2
def OverPost(S:List RP)(B:Nat)(w:World)(e:Ending)(w':World):Prop:=
 ∃v X,e=.returned (.agg #[v])∧OwnR w' B v X∧(X.map RR.pl).Perm S∧(X.Pairwise fun a b=>a.fr≤b.fr)∧(∀r∈X,r.Ok w')∧Below w.heap.size w w'
theorem OwnR.bel{w w':World}{B:Nat}{v:Value}{X:List RR}(h:OwnR w B v X)(hb:Below w.heap.size w w'):OwnR w' B v X:=jb2 h hb
section
variable {P:Program} {ops:Array Oper} {rest:List Oper} {o:Oper} {a:Act} {Q:Exit→Act→World→Prop}
theorem jd9(hgd:o.guard=none)(s x:Operand)(t e:TypeId)(ho:o.op=.call { callee:=.builtin .append,args:=#[s,x],argTypes:=#[t,t] })(ht:P.underlying t=some (.slice e))
 (z:Value) (size bytes:Nat) (hi:(P.info? e).map (fun i=>(i.zero,i.size,i.bytes))=some (some z,size,bytes)) (hzs:z.cells.size=size) (hsz:0<size)
 (W:World) (B:Nat) (v:Value) (n:Nat) (cs:List Value) (hs:a.eval s=v) (hown:W.ownsRow B e size v n cs) (news:Array Value) (hnl:news.size=size) (h1:∀u∈news.toList,u.oneCell'=true)
 (hx:a.eval x=.slice (some ⟨W.heap.size,0,none⟩) 1 1) (hlen:n<70368744177664) (hby:(n+1)*bytes≤140737488355328) (hB:B≤W.heap.size)
 (h:∀v' w',w'.ownsRow B e size v' (n+1) (cs++news.toList)→Below B W w'→(∀k,k<W.heap.size→some k≠v.ownBlock→w'.heap[k]?=W.heap[k]?)→(v'.ownBlock=v.ownBlock∨v'.ownBlock=some (W.heap.size+1))→wpList P ops Q rest (a.put o.dst v') w'):wpList P ops Q (o::rest) a (W.alloc (.cells news e)):=by
 obtain⟨i0,hi,hz0,hz1,hz2⟩:=info_parts hi;refine wpList_append_own_at _ hgd s x t ho B e i0 z size bytes ht hi hz0 hz1 hz2 hzs hsz v n cs hs (jb2 hown ((Below.refl _ _).alloc (Nat.le_refl _) _)) ⟨W.heap.size,0,none⟩ 1 1 news.toList hx (by simp[hnl]) ?_ h1 ?_ ?_ ?_ ?_
 · intro j u hj
   have ea:(⟨W.heap.size,0,none⟩:Addr).add j=⟨W.heap.size,j,none⟩:=by
    by_cases h0:j=0
    · subst h0;rfl
    · simp[Addr.add,h0]
   rw[ea,World.cell?_alloc_new];simpa using hj
 · unfold maxLen;omega
 · exact hby
 · simp;omega
 · intro v' w1 h2 h3 _ h4
   rw[World.size_alloc]at h4;refine h v' w1 h2 (((Below.refl _ _).alloc hB _).trans (jn8 (jb2 hown ((Below.refl _ _).alloc (Nat.le_refl _) _)) h3 (by simp;omega))) (fun k hk hne=>?_) h4;rw[h3.block k (by simp;omega) hne];exact((Below.refl _ _).alloc (Nat.le_refl _) _).block k hk
end
theorem ovF_done(f:Nat)(A:List RP)(r:RP)(i:Nat)(a:Int)(acc:List RP)(h:r.fin≤a):ovF (f+1) A r i a acc=(i,acc):=by rw[ovF,if_pos (by omega)]
theorem ovF_none(f:Nat)(A:List RP)(r:RP)(i:Nat)(a:Int)(acc:List RP)(h:a<r.fin)(hi:A[i]?=none):ovF (f+1) A r i a acc=ovF f A r i r.fin (acc ++ [r.part a r.fin]):=by rw[ovF,if_neg (by omega),hi]
theorem ovF_skip(f:Nat)(A:List RP)(r q:RP)(i:Nat)(a:Int)(acc:List RP)(h:a<r.fin)(hi:A[i]?=some q)(h1:q.fin≤a):ovF (f+1) A r i a acc=ovF f A r (i+1) a acc:=by rw[ovF,if_neg (by omega),hi];simp only;rw[if_pos h1]
theorem ovF_over(f:Nat)(A:List RP)(r q:RP)(i:Nat)(a:Int)(acc:List RP)(h:a<r.fin)(hi:A[i]?=some q)(h1:a<q.fin)(h2:q.fr≤a):ovF (f+1) A r i a acc=ovF f A r i (min r.fin q.fin) acc:=by rw[ovF,if_neg (by omega),hi];simp only;rw[if_neg (by omega),if_pos h2]
theorem ovF_part(f:Nat)(A:List RP)(r q:RP)(i:Nat)(a:Int)(acc:List RP)(h:a<r.fin)(hi:A[i]?=some q)(h1:a<q.fin)(h2:a<q.fr):ovF (f+1) A r i a acc=ovF f A r i (min r.fin q.fr) (acc ++ [r.part a (min r.fin q.fr)]):=by rw[ovF,if_neg (by omega),hi];simp only;rw[if_neg (by omega),if_neg (by omega)]
set_option maxRecDepth 100000 in
theorem over_any(va vb:Value)(A C:List RR)(B1 B2:Nat)(w:World)(hA:OwnR w B1 va A)(hC:OwnR w B2 vb C)(hAne:A ≠ [])(hAl:A.length≤1000)(hCl:C.length≤1000)
 (hAG:∀r∈A,r.pl.Good) (hAO:∀r∈A,r.Ok w) (hCG:∀r∈C,r.pl.Good) (hCO:∀r∈C,r.Ok w):
 Calls Tryz.prog 173 #[.agg #[va],.agg #[vb]] w (OverPost (ovAll (A.map RR.pl) (C.map RR.pl) 0 (A.map RR.pl)) w.heap.size w):=by
 obtain⟨R,hR⟩:∃R,R=ovAll (A.map RR.pl) (C.map RR.pl) 0 (A.map RR.pl):=⟨_,rfl⟩;rw[←hR];obtain⟨ga,ca,rfl,_⟩:=jc9 hA (by intro e;exact hAne (List.eq_nil_of_length_eq_zero e));obtain⟨ab,cb,rfl⟩:=jb4 hC;obtain⟨na,hna⟩:∃na,na=A.length:=⟨_,rfl⟩;obtain⟨nc,hnc⟩:∃nc,nc=C.length:=⟨_,rfl⟩;have kcl:=fun w hA=>xg9 (.slice (some ⟨ga,0,none⟩) A.length ca) A B1 w hA hAne hAl
 have hfin:∀e w',(∃v X,e=.returned (.agg #[v])∧OwnR w' w.heap.size v X∧(X.map RR.pl).Perm R∧(X.Pairwise fun a b=>a.fr≤b.fr)∧(∀r∈X,r.Ok w')∧Below w.heap.size w w')→OverPost R w.heap.size w e w':=fun _ _ h=>h
 rw[←hna]at hAl kcl ⊢;rw[←hnc]at hCl ⊢;obtain⟨W0,hW0⟩:∃W0,W0=((w.alloc (.cells #[.slice (some ⟨ga,0,none⟩) na ca] 175)).alloc (.cells #[.slice ab nc cb] 175)).alloc (.cells #[.slice none 0 0] 175):=⟨_,rfl⟩;have s1:(w.alloc (.cells #[.slice (some ⟨ga,0,none⟩) na ca] 175)).heap.size=w.heap.size+1:=World.size_alloc _ _;have s2:((w.alloc (.cells #[.slice (some ⟨ga,0,none⟩) na ca] 175)).alloc (.cells #[.slice ab nc cb] 175)).heap.size=w.heap.size+2:=by rw[World.size_alloc,s1]
 have hbW0:Below w.heap.size w W0:=by rw[hW0];exact bal (bal (bal (Below.refl _ _) _) _) _
 have t0:W0.cell? ⟨w.heap.size,0,none⟩=some (.slice (some ⟨ga,0,none⟩) na ca):=by rw[hW0];exact kc (bal (bal (Below.refl _ _) _) _) (by rw[World.cell?_alloc_new];rfl)
 have t1:W0.cell? ⟨w.heap.size+1,0,none⟩=some (.slice ab nc cb):=by rw[hW0,←s1];exact kc (bal (Below.refl _ _) _) (by rw[World.cell?_alloc_new];rfl)
 have m2:Live W0 (w.heap.size+2) 0 (.slice none 0 0):=by rw[hW0,←s2];exact Live.fresh _ _ _ 0 _ rfl
 have h2b:W0.heap[w.heap.size+2]?=some (.cells #[.slice none 0 0] 175 (0,0)):=by rw[hW0,←s2];exact heap_alloc_new _ _
 have HR:=Lib.hid hR;have HA:=Lib.hid hA;have HC:=Lib.hid hC;have HNA:=Lib.hid hna;have HNC:=Lib.hid hnc;have HAG:=Lib.hid hAG;have HAO:=Lib.hid hAO;have HCG:=Lib.hid hCG;have HCO:=Lib.hid hCO;have KCL:=Lib.hid kcl;have HFIN:=Lib.hid hfin;have HW0:=Lib.hid hW0;have HBW0:=Lib.hid hbW0;have T0:=Lib.hid t0;have T1:=Lib.hid t1;have M2:=Lib.hid m2;have H2B:=Lib.hid h2b;clear hR hA hC hna hnc hAG hAO hCG hCO kcl hfin hW0 hbW0 t0 t1 m2 h2b;clear s1 s2
 go_enter Tryz.func173,Tryz.ntmps173
 go_wp2_with fail
 rw[←HW0.out];refine(KCL.out _ (by rw[HNA.out];exact OwnR.bel HA.out HBW0.out)).mono ?_;rintro e W ⟨v5,rfl,hv5,hbW1⟩;have hbW:Below w.heap.size w W:=HBW0.out.trans (hbW1.mono HBW0.out.size);have t0:=kc hbW1 T0.out;have t1:=kc hbW1 T1.out;have hlt2:w.heap.size+2<W.heap.size:=(M2.out.keep hbW1).lt;have hv5:OwnR W W0.heap.size v5 A:=hv5;have h2W:=(hbW1.block _ (Array.getElem?_eq_some_iff.1 H2B.out).1).trans H2B.out;have hW0l:W0.heap.size≤W.heap.size:=hbW1.size;have hW02:w.heap.size+2<W0.heap.size:=M2.out.lt;have hAOW:∀r∈A,r.Ok W:=fun r hr=>(HAO.out r hr).keep hbW
 have HBW:=Lib.hid hbW;have HV5:=Lib.hid hv5;have H2W:=Lib.hid h2W;have HAOW:=Lib.hid hAOW;clear hbW hv5 h2W hAOW;clear hbW1
 go_wp2_with fail
 go_loopw [5,6,17] (fun s iv kv wr=>∃(k i:Nat) (acc:List RR),k≤nc∧kv=.int .i64 (k:Int)∧iv=.int .i64 (i:Int)∧i≤na∧OwnR wr W0.heap.size s acc∧Hid (R=ovAll (A.map RR.pl) ((C.drop k).map RR.pl) i (acc.map RR.pl)) ∧
  Hid (∀r∈acc,r.Ok wr)∧acc.length≤1000+k*1048576∧acc ≠ []∧Below W0.heap.size W wr) (fun _ _ kv _=>nc-(intOf kv).toNat)
 case atStart=>exact⟨0,0,A,Nat.zero_le _,rfl,rfl,Nat.zero_le _,HV5.out,HR.out,HAOW.out,by rw[←HNA.out];omega,hAne,Below.refl _ _⟩
 case round=>
  obtain⟨w1,rfl⟩:∃w1:World,w1=wr:=⟨_,rfl⟩;obtain⟨k,i,acc,hk,rfl,rfl,hi,hown,hRk,hok,hal,hane,hbel⟩:=hrel;have hbo:Below w.heap.size w w1:=HBW.out.trans (hbel.mono (by omega));have u0:w1.cell? ⟨w.heap.size,0,none⟩=some (.slice (some ⟨ga,0,none⟩) na ca):=(hbel.cell (p:=⟨w.heap.size,0,none⟩) (by simp;omega)).trans t0;have hlw:w.heap.size<w1.heap.size:=Nat.lt_of_lt_of_le (by omega) hbel.size;by_cases hlt:k<nc
  · obtain⟨r,hr⟩:=jb6 C k (by rw[←HNC.out];exact hlt)
    obtain⟨gc,capc,he,c0,c1,c2,c3⟩:=jq1 (OwnR.bel HC.out hbo) k r hr;simp only[Value.slice.injEq]at he;obtain⟨rfl,_,rfl⟩:=he;have hGr:=HCG.out r (List.mem_of_getElem? hr);have hOr:=HCO.out r (List.mem_of_getElem? hr);have hd:=jd1 C k (List.getElem?_eq_some_iff.1 hr).1;rw[(List.getElem?_eq_some_iff.1 hr).2]at hd;have e1:=hRk.out;rw[hd,List.map_cons,ovAll]at e1;obtain⟨rest,hrest⟩:∃rest,rest=(C.drop (k+1)).map RR.pl:=⟨_,rfl⟩;rw[←hrest]at e1;have g0:=hGr.1;have g1:=hGr.2.1;have g2:=hGr.2.2.1;have hpart:=fun(x y:Int) w (hok:r.Ok w) h0 h1 h2=>part_any r x y w hok hGr h0 h1 h2
    obtain⟨f0,hf0⟩:∃f0,f0=r.pl.ct.toNat+(A.map RR.pl).length+1:=⟨_,rfl⟩;rw[←hf0]at e1;have hfb:r.ct.toNat+na<f0:=by rw[hf0,List.length_map,←HNA.out];show r.ct.toNat+na<r.ct.toNat+na+1;omega
    obtain⟨rf,rc,rt,ra,rl,rp,rs⟩:=r;simp only[RR.sv,RR.pl,RR.enc,RR.fin]at *;obtain⟨f,rfl⟩:=Int.eq_ofNat_of_zero_le g0;obtain⟨n,rfl⟩:=Int.eq_ofNat_of_zero_le (show 0≤rc from by omega);have hend:=fun w=>kn9 f n rt (.slice ra rl rp) w (by omega) (by omega)
    have E1:=Lib.hid e1;have HE:=Lib.hid hend;have HP:=Lib.hid hpart;have HOR:=Lib.hid hOr;have HREST:=Lib.hid hrest;have HOK:=Lib.hid hok;have HOWN:=Lib.hid hown;have HGR:=Lib.hid hGr;clear e1 hend hpart hOr hrest hok hown hGr;clear hr hd hRk hf0
    go_wp2_with fail
    have hbk:=heap_alloc_new w1 (.cells #[.int .i64 f,.int .i64 n,.int .i32 rt,.slice ra rl rp] 235);have hbA:Below W0.heap.size W (w1.alloc (.cells #[.int .i64 f,.int .i64 n,.int .i32 rt,.slice ra rl rp] 235)):=hbel.alloc (Nat.le_trans hW0l hbel.size) _;have hoA:=OwnR.bel HOWN.out ((Below.refl w1.heap.size w1).alloc (Nat.le_refl _) (.cells #[.int .i64 f,.int .i64 n,.int .i32 rt,.slice ra rl rp] 235));have hokA:∀q∈acc,q.Ok (w1.alloc (.cells #[.int .i64 f,.int .i64 n,.int .i32 rt,.slice ra rl rp] 235)):=fun q hq=>(HOK.out q hq).keep ((Below.refl w1.heap.size w1).alloc (Nat.le_refl _) _)
    have hneA:∀q,Value.ownBlock _=some q→q≠w1.heap.size:=fun q hq=>Nat.ne_of_lt (jb7 HOWN.out q hq).2
    generalize w1.alloc (.cells #[.int .i64 f,.int .i64 n,.int .i32 rt,.slice ra rl rp] 235)=Wk at *;generalize hb8:w1.heap.size=b8 at *;have hb8l:W0.heap.size≤b8:=by rw[←hb8];exact Nat.le_trans hW0l hbel.size
    have HBK:=Lib.hid hbk;have HOKA:=Lib.hid hokA;have HNEA:=Lib.hid hneA;have HOA:=Lib.hid hoA;clear hbk hokA hneA hoA;clear hb8 hbel c0 c1 c2 c3 hbo u0 hlw
    go_loopw [5,6,9] (fun s iv av wq=>∃(i fu a:Nat) (acc:List RR),iv=.int .i64 (i:Int)∧i≤na∧av=.int .i64 (a:Int)∧f≤a∧a≤f+n∧OwnR wq W0.heap.size s acc ∧
     Hid (R=ovAll (A.map RR.pl) rest (ovF fu (A.map RR.pl) ⟨f,n,rt,rs⟩ i a (acc.map RR.pl)).1 (ovF fu (A.map RR.pl) ⟨f,n,rt,rs⟩ i a (acc.map RR.pl)).2)∧(f+n-a)+(na-i)<fu∧Hid (∀q∈acc,q.Ok wq)∧acc.length≤1000+k*1048576+(a-f)∧acc ≠ [] ∧
     Below W0.heap.size W wq∧Hid (wq.heap[b8]?=some (.cells #[.int .i64 f,.int .i64 n,.int .i32 rt,.slice ra rl rp] 235 (0,0)))∧Hid (∀q,s.ownBlock=some q→q≠b8)) (fun _ _ av _=>f+n-(intOf av).toNat)
    case atStart=>exact⟨i,f0,f,acc,rfl,hi,rfl,Nat.le_refl _,by omega,HOA.out,E1.out,by simp at hfb;omega,HOKA.out,by omega,hane,hbA,HBK.out,HNEA.out⟩
    case round=>
     obtain⟨i,fu,a,acc,rfl,hi,rfl,ha0,ha1,hown,hRk,hfu,hok,hal,hane,hbel,hbq,hne8⟩:=hrel;obtain⟨wo,rfl⟩:∃wo:World,wo=wr:=⟨_,rfl⟩;have u0:wo.cell? ⟨w.heap.size,0,none⟩=some (.slice (some ⟨ga,0,none⟩) na ca):=(hbel.cell (p:=⟨w.heap.size,0,none⟩) (by simp;omega)).trans t0;have d0:wo.cell? ⟨b8,0,none⟩=some (.int .i64 f):=by rw[cell_of_row _ _ _ _ _ _ hbq.out];rfl
     have d1:wo.cell? ⟨b8,1,none⟩=some (.int .i64 n):=by rw[cell_of_row _ _ _ _ _ _ hbq.out];rfl
     have d2:wo.cell? ⟨b8,2,none⟩=some (.int .i32 rt):=by rw[cell_of_row _ _ _ _ _ _ hbq.out];rfl
     have d3:wo.cell? ⟨b8,3,none⟩=some (.slice ra rl rp):=by rw[cell_of_row _ _ _ _ _ _ hbq.out];rfl
     have hcur:Below wo.heap.size wo wo:=Below.refl _ _;have hww:Below w.heap.size w wo:=HBW.out.trans (hbel.mono (by omega));have hfr:(⟨f,n,rt,rs⟩:RP).fin=(f:Int)+n:=rfl;have V0:=Lib.hid u0;have V1:=Lib.hid d0;have V2:=Lib.hid d1;have V3:=Lib.hid d2;have V4:=Lib.hid d3;have HOWN:=Lib.hid hown;have HWW:=Lib.hid hww;have HFR:=Lib.hid hfr;clear hown hww hfr;by_cases hcc:(a:Int)<f+n
     · go_wp2_with (go_at_call 175;with_reducible refine(HE.out _).mono ?_;rintro e wa ⟨rfl,hba⟩;have hcur:=bt hcur hba;have d0:=kc hba d0;have d1:=kc hba d1;have d2:=kc hba d2;have d3:=kc hba d3;have u0:=kc hba u0)
       have hcw:=HWW.out
       go_loopw [6] (fun iv wz=>∃(i fu:Nat),iv=.int .i64 (i:Int)∧i≤na∧Hid (R=ovAll (A.map RR.pl) rest (ovF fu (A.map RR.pl) ⟨f,n,rt,rs⟩ i a (acc.map RR.pl)).1 (ovF fu (A.map RR.pl) ⟨f,n,rt,rs⟩ i a (acc.map RR.pl)).2) ∧
        (f+n-a)+(na-i)<fu∧Below wo.heap.size wo wz) (fun iv _=>na-(intOf iv).toNat)
       case atStart=>exact⟨i,fu,rfl,hi,hRk.out,hfu,hcur⟩
       case round=>
        clear hRk hfu hi;obtain⟨i,fu,rfl,hi,hRk,hfu,hcur⟩:=hrel;have u0:=kc hcur V0.out;have d0:=kc hcur V1.out;have d1:=kc hcur V2.out;have d2:=kc hcur V3.out;have d3:=kc hcur V4.out;by_cases hin:i<na
        · obtain⟨q,hq⟩:=jb6 A i (by rw[←HNA.out];exact hin)
          obtain⟨gq,capq,he,c0,c1,c2,c3⟩:=jq1 (OwnR.bel HA.out (bt hcw hcur)) i q hq;simp only[Value.slice.injEq,Option.some.injEq,Addr.mk.injEq]at he;obtain⟨⟨rfl,_,_⟩,_,rfl⟩:=he;have hGq:=HAG.out q (List.mem_of_getElem? hq);have q0:=hGq.1;have q1:=hGq.2.1;have q2:=hGq.2.2.1;have hqp:(A.map RR.pl)[i]?=some q.pl:=by rw[List.getElem?_map,hq];rfl
          obtain⟨qf,qc,qt,qa,ql,qp,qs⟩:=q;simp only[RR.sv,RR.pl]at *;obtain⟨qf,rfl⟩:=Int.eq_ofNat_of_zero_le q0;obtain⟨qc,rfl⟩:=Int.eq_ofNat_of_zero_le (show 0≤qc from by omega);have heq:=fun w=>kn9 qf qc qt (.slice qa ql qp) w (by omega) (by omega)
          have hfq:(⟨qf,qc,qt,qs⟩:RP).fin=(qf:Int)+qc:=rfl;obtain⟨fu,rfl⟩:∃g,fu=g+1:=⟨fu-1,by omega⟩;have HEQ:=Lib.hid heq;have HFQ:=Lib.hid hfq;have HQP:=Lib.hid hqp;clear heq hfq hqp;clear hq hGq;by_cases hqe:(qf:Int)+qc≤a
          · have e3:=hRk.out
            rw[ovF_skip fu _ _ _ _ _ _ (by rw[HFR.out];exact hcc) HQP.out (by rw[HFQ.out];exact hqe)]at e3;have E3:=Lib.hid e3;clear e3;clear hRk
            go_wp2_with (go_at_call 175;with_reducible refine(HEQ.out _).mono ?_;rintro e wa ⟨rfl,hba⟩;have hcur:=bt hcur hba;have d0:=kc hba d0;have d1:=kc hba d1;have d2:=kc hba d2;have d3:=kc hba d3;have u0:=kc hba u0;have c0:=kc hba c0;have c1:=kc hba c1;have c2:=kc hba c2;have c3:=kc hba c3)
            go_roundw
            case rel=>exact⟨i+1,fu,by go_num,by omega,E3.out,by omega,hcur⟩
            case measure=>simp[intOf];omega
          · by_cases hqf:(qf:Int)≤a
            · have e3:=hRk.out
              rw[ovF_over fu _ _ _ _ _ _ (by rw[HFR.out];exact hcc) HQP.out (by rw[HFQ.out];omega) hqf]at e3;rw[HFR.out,HFQ.out]at e3;obtain⟨nx,hnx⟩:∃nx:Nat,min ((f:Int)+n) ((qf:Int)+qc)=(nx:Int):=⟨(min ((f:Int)+n) ((qf:Int)+qc)).toNat,by omega⟩;have hnx1:a<nx∧nx≤f+n:=by omega
              obtain⟨hnx1,hnx2⟩:=hnx1;rw[hnx]at e3;have E3:=Lib.hid e3;clear e3;clear hRk
              go_wp2_with (first|(go_at_call 175;with_reducible refine(HE.out _).mono ?_;rintro e wa ⟨rfl,hba⟩;have hcur:=bt hcur hba;have d0:=kc hba d0;have d1:=kc hba d1;have d2:=kc hba d2;have d3:=kc hba d3;have u0:=kc hba u0;have c0:=kc hba c0;have c1:=kc hba c1;have c2:=kc hba c2;have c3:=kc hba c3)|(go_at_call 175;with_reducible refine(HEQ.out _).mono ?_;rintro e wa ⟨rfl,hba⟩;have hcur:=bt hcur hba;have d0:=kc hba d0;have d1:=kc hba d1;have d2:=kc hba d2;have d3:=kc hba d3;have u0:=kc hba u0;have c0:=kc hba c0;have c1:=kc hba c1;have c2:=kc hba c2;have c3:=kc hba c3))
              have HCUR:=Lib.hid hcur;clear hcur;have hq4:=(HCUR.out.block b8 (Array.getElem?_eq_some_iff.1 hbq.out).1).trans hbq.out;have hok4:∀q∈acc,q.Ok _:=fun q hq=>(hok.out q hq).keep HCUR.out
              have hb4:Below W0.heap.size W _:=hbel.trans (HCUR.out.mono (Nat.le_trans hW0l hbel.size));have ho4:=OwnR.bel HOWN.out HCUR.out;have HQ4:=Lib.hid hq4;have HOK4:=Lib.hid hok4;have HO4:=Lib.hid ho4;clear hq4 hok4 ho4
              go_roundw
              case rel=>exact⟨i,fu,nx,acc,rfl,by omega,by first|rfl|go_num,by omega,by omega,HO4.out,E3.out,by omega,HOK4.out,by omega,hane,hb4,HQ4.out,hne8.out⟩
              case measure=>simp[intOf];omega
            · have e3:=hRk.out
              rw[ovF_part fu _ _ _ _ _ _ (by rw[HFR.out];exact hcc) HQP.out (by rw[HFQ.out];omega) (by show(a:Int)<qf;omega)]at e3;obtain⟨nx,hnx⟩:∃nx:Nat,min ((f:Int)+n) (qf:Int)=(nx:Int):=⟨(min ((f:Int)+n) (qf:Int)).toNat,by omega⟩;have hnx1:a<nx∧nx≤f+n:=by omega
              obtain⟨hnx1,hnx2⟩:=hnx1;rw[HFR.out]at e3;simp only at e3;rw[hnx]at e3;have E3:=Lib.hid e3;clear e3;clear hRk
              go_wp2_with (first|(go_at_call 175;with_reducible refine(HE.out _).mono ?_;rintro e wa ⟨rfl,hba⟩;have hcur:=bt hcur hba;have d0:=kc hba d0;have d1:=kc hba d1;have d2:=kc hba d2;have d3:=kc hba d3;have u0:=kc hba u0;have c0:=kc hba c0;have c1:=kc hba c1;have c2:=kc hba c2;have c3:=kc hba c3)|(go_at_call 175;with_reducible refine(HEQ.out _).mono ?_;rintro e wa ⟨rfl,hba⟩;have hcur:=bt hcur hba;have d0:=kc hba d0;have d1:=kc hba d1;have d2:=kc hba d2;have d3:=kc hba d3;have u0:=kc hba u0;have c0:=kc hba c0;have c1:=kc hba c1;have c2:=kc hba c2;have c3:=kc hba c3)|(go_at_call 208;refine(HP.out (a:Int) (nx:Int) _ (HOR.out.keep (bt hcw hcur)) (by omega) (by omega) (by omega)).mono ?_;rintro e wb ⟨⟨pf,pc,pt,pa,pl,pp,ps⟩,rfl,hpp,hpo,hba⟩;have hcur:=bt hcur hba;simp only[RR.enc,RR.sv])|(at_builtin;(refine jd9 rfl _ _ 173 235 rfl Tryz.underlying173 (.agg #[.int .i64 0,.int .i64 0,.int .i32 0,.slice none 0 0]) 4 48 kn1 rfl (by decide) wb W0.heap.size u5 acc.length (rcells acc) rfl (OwnR.bel HOWN.out hcur) #[.int .i64 pf,.int .i64 pc,.int .i32 pt,.slice pa pl pp] rfl (by simp[Value.oneCell']) rfl (by omega) (by omega) (Nat.le_trans (Nat.le_trans hW0l hbel.size) hcur.size) ?_;intro v' w4 hX4 hb4 hk4 hloc4)))
              have hor:=OwnR.bel HOWN.out hcur;have hbx:=(hcur.block b8 (Array.getElem?_eq_some_iff.1 hbq.out).1).trans hbq.out;have hq4:=(hk4 b8 (Array.getElem?_eq_some_iff.1 hbx).1 (fun e=>hne8.out b8 e.symm rfl)).trans hbx;have hokk:∀q:RR,q.Ok wb→q.Ok w4:=fun q hq=>hq.blk fun j cur hj=>hk4 j (Array.getElem?_eq_some_iff.1 hj).1 (fun e=>(jd0 hor hj (by decide)) e.symm)
              have hok4:∀q∈acc ++ [(⟨pf,pc,pt,pa,pl,pp,ps⟩:RR)],q.Ok w4:=by
               intro q hq;rcases List.mem_append.1 hq with h|h
               · exact hokk q ((hok.out q h).keep hcur)
               · simp only[List.mem_singleton]at h;rw[h];exact hokk _ hpo
              have ho4:OwnR w4 W0.heap.size v' (acc ++ [(⟨pf,pc,pt,pa,pl,pp,ps⟩:RR)]):=by unfold OwnR;rw[jh9,List.length_append];exact hX4
              have hn4:∀q,v'.ownBlock=some q→q≠b8:=by
               intro q hq;rcases hloc4 with h|h
               · exact hne8.out q (h.symm.trans hq)
               · rw[h]at hq
                 have hl:=(Array.getElem?_eq_some_iff.1 hbx).1;simp only[Option.some.injEq]at hq;omega
              have e9:R=ovAll (A.map RR.pl) rest (ovF fu (A.map RR.pl) ⟨f,n,rt,rs⟩ i (nx:Nat) ((acc ++ [(⟨pf,pc,pt,pa,pl,pp,ps⟩:RR)]).map RR.pl)).1 (ovF fu (A.map RR.pl) ⟨f,n,rt,rs⟩ i (nx:Nat) ((acc ++ [(⟨pf,pc,pt,pa,pl,pp,ps⟩:RR)]).map RR.pl)).2:=by
               rw[List.map_append,List.map_cons,List.map_nil,hpp];exact E3.out
              have hb5:Below W0.heap.size W w4:=(hbel.trans (hcur.mono (Nat.le_trans hW0l hbel.size))).trans hb4;have hl4:(acc ++ [(⟨pf,pc,pt,pa,pl,pp,ps⟩:RR)]).length≤1000+k*1048576+(nx-f):=by rw[List.length_append];simp;omega
              have HQ4:=Lib.hid hq4;have HOK4:=Lib.hid hok4;have HO4:=Lib.hid ho4;have HN4:=Lib.hid hn4;have E9:=Lib.hid e9;have HB5:=Lib.hid hb5;have HL4:=Lib.hid hl4;clear hq4 hok4 ho4 hn4 e9 hb5 hl4;clear hk4 hX4 hb4 hokk hor hbx hloc4
              go_roundw
              case rel=>exact⟨i,fu,nx,_,rfl,by omega,by first|rfl|go_num,by omega,by omega,HO4.out,E9.out,by omega,HOK4.out,HL4.out,by simp,HB5.out,HQ4.out,HN4.out⟩
              case measure=>simp[intOf];omega
        · have e3:=hRk.out
          have hnone:(A.map RR.pl)[i]?=none:=by rw[List.getElem?_eq_none];rw[List.length_map,←HNA.out];omega
          obtain⟨fu,rfl⟩:∃g,fu=g+1:=⟨fu-1,by omega⟩;rw[ovF_none fu _ _ _ _ _ (by rw[HFR.out];exact hcc) hnone]at e3;rw[HFR.out]at e3;obtain⟨nx,hnx⟩:∃nx:Nat,(f:Int)+n=(nx:Int):=⟨f+n,by omega⟩;have hnx1:a<nx∧nx≤f+n:=by omega
          obtain⟨hnx1,hnx2⟩:=hnx1;rw[hnx]at e3;have hin':i=na:=by omega
          subst hin';have E3:=Lib.hid e3;have HNONE:=Lib.hid hnone;have HNX:=Lib.hid hnx;clear e3 hnone hnx;clear hRk
          go_wp2_with (first|(go_at_call 175;with_reducible refine(HE.out _).mono ?_;rintro e wa ⟨rfl,hba⟩;have hcur:=bt hcur hba;have d0:=kc hba d0;have d1:=kc hba d1;have d2:=kc hba d2;have d3:=kc hba d3;have u0:=kc hba u0)|(go_at_call 208;refine(HP.out (a:Int) ((f:Int)+n) _ (HOR.out.keep (bt hcw hcur)) (by omega) (by omega) (by omega)).mono ?_;rintro e wb ⟨⟨pf,pc,pt,pa,pl,pp,ps⟩,rfl,hpp,hpo,hba⟩;have hcur:=bt hcur hba;simp only[RR.enc,RR.sv])|(at_builtin;(refine jd9 rfl _ _ 173 235 rfl Tryz.underlying173 (.agg #[.int .i64 0,.int .i64 0,.int .i32 0,.slice none 0 0]) 4 48 kn1 rfl (by decide) wb W0.heap.size u5 acc.length (rcells acc) rfl (OwnR.bel HOWN.out hcur) #[.int .i64 pf,.int .i64 pc,.int .i32 pt,.slice pa pl pp] rfl (by simp[Value.oneCell']) rfl (by omega) (by omega) (Nat.le_trans (Nat.le_trans hW0l hbel.size) hcur.size) ?_;intro v' w4 hX4 hb4 hk4 hloc4)))
          rw[HNX.out]at hpp;have hor:=OwnR.bel HOWN.out hcur;have hbx:=(hcur.block b8 (Array.getElem?_eq_some_iff.1 hbq.out).1).trans hbq.out;have hq4:=(hk4 b8 (Array.getElem?_eq_some_iff.1 hbx).1 (fun e=>hne8.out b8 e.symm rfl)).trans hbx;have hokk:∀q:RR,q.Ok wb→q.Ok w4:=fun q hq=>hq.blk fun j cur hj=>hk4 j (Array.getElem?_eq_some_iff.1 hj).1 (fun e=>(jd0 hor hj (by decide)) e.symm)
          have hok4:∀q∈acc ++ [(⟨pf,pc,pt,pa,pl,pp,ps⟩:RR)],q.Ok w4:=by
           intro q hq;rcases List.mem_append.1 hq with h|h
           · exact hokk q ((hok.out q h).keep hcur)
           · simp only[List.mem_singleton]at h;rw[h];exact hokk _ hpo
          have ho4:OwnR w4 W0.heap.size v' (acc ++ [(⟨pf,pc,pt,pa,pl,pp,ps⟩:RR)]):=by unfold OwnR;rw[jh9,List.length_append];exact hX4
          have hn4:∀q,v'.ownBlock=some q→q≠b8:=by
           intro q hq;rcases hloc4 with h|h
           · exact hne8.out q (h.symm.trans hq)
           · rw[h]at hq
             have hl:=(Array.getElem?_eq_some_iff.1 hbx).1;simp only[Option.some.injEq]at hq;omega
          have e9:R=ovAll (A.map RR.pl) rest (ovF fu (A.map RR.pl) ⟨f,n,rt,rs⟩ i (nx:Nat) ((acc ++ [(⟨pf,pc,pt,pa,pl,pp,ps⟩:RR)]).map RR.pl)).1 (ovF fu (A.map RR.pl) ⟨f,n,rt,rs⟩ i (nx:Nat) ((acc ++ [(⟨pf,pc,pt,pa,pl,pp,ps⟩:RR)]).map RR.pl)).2:=by
           rw[List.map_append,List.map_cons,List.map_nil,hpp];exact E3.out
          have hb5:Below W0.heap.size W w4:=(hbel.trans (hcur.mono (Nat.le_trans hW0l hbel.size))).trans hb4;have hl4:(acc ++ [(⟨pf,pc,pt,pa,pl,pp,ps⟩:RR)]).length≤1000+k*1048576+(nx-f):=by rw[List.length_append];simp;omega
          have HQ4:=Lib.hid hq4;have HOK4:=Lib.hid hok4;have HO4:=Lib.hid ho4;have HN4:=Lib.hid hn4;have E9:=Lib.hid e9;have HB5:=Lib.hid hb5;have HL4:=Lib.hid hl4;clear hq4 hok4 ho4 hn4 e9 hb5 hl4;clear hk4 hX4 hb4 hokk hor hbx hloc4
          go_roundw
          case rel=>exact⟨i,fu,nx,_,rfl,by omega,by first|rfl|rw[HNX.out],by omega,by omega,HO4.out,E9.out,by omega,HOK4.out,HL4.out,by simp,HB5.out,HQ4.out,HN4.out⟩
          case measure=>simp[intOf];omega
     · have e3:=hRk.out
       obtain⟨fu,rfl⟩:∃g,fu=g+1:=⟨fu-1,by omega⟩;rw[ovF_done fu _ _ _ _ _ (by rw[HFR.out];omega)]at e3;simp only at e3;rw[HREST.out]at e3;have E3:=Lib.hid e3;clear e3;clear hRk
       go_wp2_with (go_at_call 175;with_reducible refine(HE.out _).mono ?_;rintro e wa ⟨rfl,hba⟩;have hcur:=bt hcur hba;have d0:=kc hba d0;have d1:=kc hba d1;have d2:=kc hba d2;have d3:=kc hba d3;have u0:=kc hba u0)
       have HCUR:=Lib.hid hcur;clear hcur;have hok4:∀q∈acc,q.Ok _:=fun q hq=>(hok.out q hq).keep HCUR.out
       have hb4:Below W0.heap.size W _:=hbel.trans (HCUR.out.mono (Nat.le_trans hW0l hbel.size));have ho4:=OwnR.bel HOWN.out HCUR.out;have HOK4:=Lib.hid hok4;have HO4:=Lib.hid ho4;clear hok4 ho4
       go_roundw
       case rel=>exact⟨k+1,i,acc,by omega,by go_num,rfl,hi,HO4.out,E3.out,HOK4.out,by omega,hane,hb4⟩
       case measure=>simp[intOf];omega
  · have hkn:k=nc:=by omega
    subst hkn;have e1:R=acc.map RR.pl:=by rw[hRk.out,List.drop_of_length_le (by rw[HNC.out];exact Nat.le_refl _)];rfl
    obtain⟨a9,c9,rfl⟩:=jb4 hown;have hbF:=fun w' h=>kw8 (.slice a9 acc.length c9) acc W0.heap.size w' h hane (by omega)
    have h2wr:=(hbel.block (w.heap.size+2) (by omega)).trans H2W.out;have hlt4:w.heap.size+2<w1.heap.size:=(Array.getElem?_eq_some_iff.1 h2wr).1;have a1:w1.cell? ⟨w.heap.size+1+1,0,none⟩=some (.slice none 0 0):=by rw[cell_of_row _ _ _ _ _ _ h2wr];rfl
    have a2:w1.frozen? ⟨w.heap.size+1+1,0,none⟩=false:=by
     have h':w1.heap[w.heap.size+1+1]?=some (.cells #[.slice none 0 0] 175 (0,0)):=h2wr;simp[World.frozen?,h']
    have hoW:=(fun q hq=>(jb7 hown q hq).1);have HBF:=Lib.hid hbF;have HOWN:=Lib.hid hown;have H2WR:=Lib.hid h2wr;have E1:=Lib.hid e1;have HOW:=Lib.hid hoW;have HOK:=Lib.hid hok;clear hbF hown h2wr e1 hoW hok
    go_wp2_with fail
    refine(HBF.out _ HOWN.out).mono ?_;rintro e w2 ⟨rfl,X',hX1,hX2,hX3⟩;have b1:=kd0 a1 hX3 (fun e=>by have:=HOW.out _ e;omega);have b2:=jz0 a1 a2 hX3 (fun e=>by have:=HOW.out _ e;omega);have hb2:Below W0.heap.size W w2:=hbel.grown hX3 (Nat.le_trans hW0l hbel.size) HOW.out;have h2w2:=(hb2.block (w.heap.size+2) (by omega)).trans H2W.out;clear a1 a2;have HX1:=Lib.hid hX1;have HX2:=Lib.hid hX2;have HX3:=Lib.hid hX3;have H2W2:=Lib.hid h2w2;clear hX1 hX2 hX3 h2w2
    go_wp2_with fail
    refine bodyPost_ret (v:=.agg #[.slice a9 acc.length c9]) (by simp[results,Tryz.results173,go_sem,b1,b2]) rfl ?_;have hbo2:Below w.heap.size w w2:=HBW.out.trans (hb2.mono (by omega));have hX1:=HX1.out;refine HFIN.out _ _ ⟨_,X',rfl,?_,?_,hX1.2,?_,hbo2.setCell (show w.heap.size≤_ from by simp only;omega) _⟩
    · exact jc3 (jb5 HX2.out fun q hq=>by
       have:=HOW.out q hq;rw[Below.heap_setCell _ _ _ _ (by simp only;omega)]) (by omega)
    · rw[E1.out];exact hX1.1.map _
    · intro r hr
      have h0:=vh1 (HOK.out r (hX1.1.mem_iff.1 hr)) HX3.out HOWN.out (by decide);refine h0.blk fun q cur hq=>?_
      have e0:q≠w.heap.size+1+1:=fun e=>by
       have:=H2W2.out;rw[e,show w.heap.size+1+1=w.heap.size+2 from rfl,this]at hq;simp at hq
      rw[Below.heap_setCell _ _ _ _ e0]
theorem xg8(v:Value)(X:List RR)(B c1 c2:Nat)(code:Int)(k:Nat)(w:World)(hX:OwnR w B v X)(hG:∀r∈X,r.pl.Good)(hk:k<X.length)(hl:X.length≤2000)(hc:w.cell? ⟨c1,0,none⟩=some (.int .i64 code))(ht:w.cell? ⟨c2,0,none⟩=some v):
 Calls Tryz.prog 214 #[.int .i64 k,.pointer (some ⟨c1,0,none⟩),.pointer (some ⟨c2,0,none⟩)] w fun e w'=>e=.returned (.bool (decide (code<(X.getD k default).fin)))∧Below w.heap.size w w':=by
 obtain⟨r,hr⟩:=jb6 X k hk;have hd:X.getD k default=r:=by simp[List.getD,hr]
 rw[hd];obtain⟨g,cap,rfl,d0,d1,d2,d3⟩:=jq1 hX k r hr;have hGr:=hG r (List.mem_of_getElem? hr);have g0:=hGr.1;have g1:=hGr.2.1;have g2:=hGr.2.2.1;obtain⟨rf,rc,rt,ra,rl,rp,rs⟩:=r;simp only[RR.sv,RR.pl,RR.fin]at *;have he:=fun w=>kn9 rf rc rt (.slice ra rl rp) w (by omega) (by omega)
 have q0:=fun x:Grown w=>x.cell hc
 have q1:=fun x:Grown w=>x.cell ht
 have q2:=fun x:Grown w=>x.cell d0
 have q3:=fun x:Grown w=>x.cell d1
 have q4:=fun x:Grown w=>x.cell d2
 have q5:=fun x:Grown w=>x.cell d3
 have hki:(k:Int)<X.length:=by omega
 generalize X.length=n at *;have HE:=Lib.hid he;clear he;clear hX hG hr hd hGr
 go_enter Tryz.func214,Tryz.ntmps214
 go_wp2_with fail
 refine wp_region_grown (by kernel_rfl) (by kernel_rfl) ?_
 repeat (first|go_big_quiet_step ((go_at_call 175;with_reducible exact Calls.grown_of (HE.out _)))|quiet_step ((go_at_call 175;with_reducible exact Calls.grown_of (HE.out _))))
 refine wpQuiet_nil ?_;intro _ hw';obtain⟨xg,rfl⟩:=hw';have hbx:=xg.bel
 go_wp2_with fail
 go_ret
 exact⟨rfl,hbx⟩
theorem vf2(v:Value)(X:List RR)(B c1 c2:Nat)(code:Int)(w:World)(hX:OwnR w B v X)(hG:∀r∈X,r.pl.Good)(hl:X.length≤2000)(hc:w.cell? ⟨c1,0,none⟩=some (.int .i64 code))(ht:w.cell? ⟨c2,0,none⟩=some v)
 (hm:∀a b,a≤b→b<X.length→code<(X.getD a default).fin→code<(X.getD b default).fin):
 Calls Tryz.prog 213 #[.int .i64 X.length,.func (.func 214) #[] #[.pointer (some ⟨c1,0,none⟩),.pointer (some ⟨c2,0,none⟩)]] w
  fun e w'=>∃k:Nat,e=.returned (.int .i64 k)∧k≤X.length∧(∀j,j<k→¬code<(X.getD j default).fin)∧(k<X.length→code<(X.getD k default).fin)∧Below w.heap.size w w':=by
 have kc1:=fun(k:Nat) w' (hb:Below w.heap.size w w') hk=>xg8 v X B c1 c2 code k w' (jb2 hX hb) hG hk hl (kc hb hc) (kc hb ht)
 obtain⟨n,hn⟩:∃n,n=X.length:=⟨_,rfl⟩;rw[←hn]at hl hm kc1 ⊢;have K1:=Lib.hid kc1;have HM:=Lib.hid hm;have HN:=Lib.hid hn;clear kc1 hm hn;clear hX hG hc ht
 go_enter Tryz.func213,Tryz.ntmps213
 go_wp2_with fail
 go_loopw [5,6] (fun iv jv wr=>∃(i j:Nat),iv=.int .i64 (i:Int)∧jv=.int .i64 (j:Int)∧i≤j∧j≤n∧Hid (∀q,q<i→(X.getD q default).fin≤code)∧Hid (j<n→code<(X.getD j default).fin)∧Below w.heap.size w wr) (fun iv jv _=>(intOf jv-intOf iv).toNat)
 case atStart=>exact⟨0,n,rfl,rfl,Nat.zero_le _,Nat.le_refl _,by intro q hq;omega,by intro h;omega,Below.refl _ _⟩
 case round=>
  obtain⟨i,j,rfl,rfl,hij,hj,h1,h2,hbel⟩:=hrel;by_cases hlt:i<j
  · obtain⟨h,hh⟩:∃h:Nat,h=(i+j)/2:=⟨_,rfl⟩
    have hh1:i≤h∧h<j:=by omega
    obtain⟨hh1,hh2⟩:=hh1;have k1:=K1.out h wr hbel (by omega);have hsum:((i:Int)+j)/2=(h:Int):=by omega
    have hw0:IntKind.i64.wrap ((i:Int)+j)=(i:Int)+j:=wi64 _ (by omega) (by omega);by_cases hp:code<(X.getD h default).fin
    · rw[decide_eq_true hp]at k1
      have KK:=Lib.hid k1;have HH:=Lib.hid hh;have HP:=Lib.hid hp;clear k1 hh hp
      go_wp2_with (go_at_call 214;with_reducible refine KK.out.mono ?_;rintro e w1 ⟨rfl,hb1⟩)
      go_roundw
      case rel=>exact⟨i,h,rfl,rfl,by omega,by omega,h1.out,fun _=>HP.out,bt hbel hb1⟩
      case measure=>simp[intOf];omega
    · rw[decide_eq_false hp]at k1
      have hnew:∀q,q<h+1→(X.getD q default).fin≤code:=fun q hq=>Int.not_lt.1 fun hc=>hp (HM.out q h (by omega) (by omega) hc)
      have KK:=Lib.hid k1;have HH:=Lib.hid hh;have HP:=Lib.hid hp;have HNEW:=Lib.hid hnew;clear k1 hh hp hnew
      go_wp2_with (go_at_call 214;with_reducible refine KK.out.mono ?_;rintro e w1 ⟨rfl,hb1⟩)
      go_roundw
      case rel=>exact⟨h+1,j,by go_num,rfl,by omega,by omega,HNEW.out,h2.out,bt hbel hb1⟩
      case measure=>simp[intOf];omega
  · have hij':i=j:=by omega
    subst hij'
    go_wp2_with fail
    go_ret
    exact⟨i,rfl,hj,fun q hq=>h1.out q hq,fun h=>h2.out h,hbel⟩
theorem qt6(v:Value)(X:List RR)(B:Nat)(code:Int)(k:Nat)(r:RR)(w:World)(hX:OwnR w B v X)(hG:∀r∈X,r.pl.Good)(hO:∀r∈X,r.Ok w)(hl:X.length≤2000)
 (hr:X[k]?=some r) (h0:r.fr≤code) (h1:code<r.fin) (hlo:∀j,j<k→¬code<(X.getD j default).fin)
 (hm:∀a b,a≤b→b<X.length→code<(X.getD a default).fin→code<(X.getD b default).fin):
 Calls Tryz.prog 185 #[.agg #[v],.int .i64 code] w fun e w'=>e=.returned (.tuple #[.int .i32 (r.pl.sign code),.bool true])∧Below w.heap.size w w':=by
 have hkl:=(List.getElem?_eq_some_iff.1 hr).1;have hd:X.getD k default=r:=by simp[List.getD,hr]
 have hGr:=hG r (List.mem_of_getElem? hr);have hOr:=hO r (List.mem_of_getElem? hr);obtain⟨g,cap,rfl,d0,d1,d2,d3⟩:=jq1 hX k r hr;obtain⟨W,hW⟩:∃W,W=(w.alloc (.cells #[.slice (some ⟨g,0,none⟩) X.length cap] 175)).alloc (.cells #[.int .i64 code] 3):=⟨_,rfl⟩;have s1:(w.alloc (.cells #[.slice (some ⟨g,0,none⟩) X.length cap] 175)).heap.size=w.heap.size+1:=World.size_alloc _ _;have hbW:Below w.heap.size w W:=by rw[hW];exact bal (bal (Below.refl _ _) _) _
 have t0:W.cell? ⟨w.heap.size,0,none⟩=some (.slice (some ⟨g,0,none⟩) X.length cap):=by rw[hW];exact kc (bal (Below.refl _ _) _) (by rw[World.cell?_alloc_new];rfl)
 have t1:W.cell? ⟨w.heap.size+1,0,none⟩=some (.int .i64 code):=by rw[hW,←s1,World.cell?_alloc_new];rfl
 have ks:=vf2 _ X B (w.heap.size+1) w.heap.size code W (jb2 hX hbW) hG hl t1 t0 hm;have ks2:Calls Tryz.prog 213 #[.int .i64 X.length,.func (.func 214) #[] #[.pointer (some ⟨w.heap.size+1,0,none⟩),.pointer (some ⟨w.heap.size,0,none⟩)]] W fun e w'=>e=.returned (.int .i64 k)∧Below W.heap.size W w':=
  ks.mono fun e w' ⟨j,he,hj,h2,h3,hb⟩=>by
   have:j=k:=by
    rcases Nat.lt_trichotomy j k with h|h|h
    · exact absurd (h3 (by omega)) (hlo j h)
    · exact h
    · exact absurd (by rw[hd];exact h1) (h2 k h)
   subst this;exact⟨he,hb⟩
 have hG2:=hGr;have g0:=hGr.1;have g2:=hGr.2.2.1;have ksg:=fun w' (hok:r.Ok w')=>kk3 r code w' hok h0 h1 g0 (by have:r.fr+r.ct≤1048576:=g2;unfold RR.fin;omega) hGr.2.2.2.1 (by have:r.tq+r.ct≤2097152:=hGr.2.2.2.2.1;omega) hGr.2.2.2.2.2
 have hsg:r.sign code=r.pl.sign code:=rfl;rw[hsg]at ksg;generalize r.pl.sign code=q at *;have hki:(k:Int)<X.length:=by omega
 have hne:((k:Int)==(X.length:Int))=false:=by simp;omega
 obtain⟨rf,rc,rt,ra,rl,rp,rs⟩:=r;simp only[RR.sv,RR.pl,RR.fin,RR.enc]at *;have hnl:decide (code<rf)=false:=by simpa using h0
 have e0:=kc hbW d0;have e1:=kc hbW d1;have e2:=kc hbW d2;have e3:=kc hbW d3;have hOW:=hOr.keep hbW;generalize X.length=n at *;have KS:=Lib.hid ks2;have KSG:=Lib.hid ksg;have HW:=Lib.hid hW;have HOW:=Lib.hid hOW;have HBW:=Lib.hid hbW;have E0:=Lib.hid e0;have E1:=Lib.hid e1;have E2:=Lib.hid e2;have E3:=Lib.hid e3;have T0:=Lib.hid t0;have T1:=Lib.hid t1;clear ks2 ksg hW hOW hbW e0 e1 e2 e3 t0 t1;clear hX hG hO hl hr hlo hm hkl hd hGr hOr d0 d1 d2 d3 s1 ks hG2
 go_enter Tryz.func185,Tryz.ntmps185
 go_wp2_with fail
 rw[←HW.out];refine KS.out.mono ?_;rintro e w1 ⟨rfl,hb1⟩;have a0:=fun x:Grown w1=>x.cell (kc hb1 T0.out)
 have a1:=fun x:Grown w1=>x.cell (kc hb1 T1.out)
 have a2:=fun x:Grown w1=>x.cell (kc hb1 E0.out)
 have a3:=fun x:Grown w1=>x.cell (kc hb1 E1.out)
 have a4:=fun x:Grown w1=>x.cell (kc hb1 E2.out)
 have a5:=fun x:Grown w1=>x.cell (kc hb1 E3.out)
 go_wp2_with fail
 refine wp_region_grown (by kernel_rfl) (by kernel_rfl) ?_
 repeat (first|go_big_quiet_step ((fail))|quiet_step ((fail)))
 refine wpQuiet_nil ?_;intro _ hw';obtain⟨xg,rfl⟩:=hw';have hbx:=xg.bel;have hb2:=bt hb1 hbx;clear a0 a1 a2 a3 a4 a5;generalize xg.wd=w2 at *;clear xg;have a0:=fun x:Grown w2=>x.cell (kc hb2 T0.out)
 have a1:=fun x:Grown w2=>x.cell (kc hb2 T1.out)
 have a2:=fun x:Grown w2=>x.cell (kc hb2 E0.out)
 have a3:=fun x:Grown w2=>x.cell (kc hb2 E1.out)
 have a4:=fun x:Grown w2=>x.cell (kc hb2 E2.out)
 have a5:=fun x:Grown w2=>x.cell (kc hb2 E3.out)
 have hok:=HOW.out.keep hb2;have HOK:=Lib.hid hok;clear hok
 go_wp2_with fail
 refine wp_region_grown (by kernel_rfl) (by kernel_rfl) ?_
 repeat (first|go_big_quiet_step ((go_at_call 176;with_reducible exact Calls.grown_of (KSG.out _ (HOK.out.keep (Grown.bel _)))))|quiet_step ((go_at_call 176;with_reducible exact Calls.grown_of (KSG.out _ (HOK.out.keep (Grown.bel _))))))
 refine wpQuiet_nil ?_;intro _ hw';obtain⟨xg,rfl⟩:=hw';have hby:=xg.bel
 go_wp2_with fail
 go_ret2
 exact⟨rfl,bt (HBW.out.trans (hb2.mono HBW.out.size)) hby⟩
end Go.Proofs.YtagjkmkmphamoaaGreatDoor
