/- PB -/
import Derived.Test.YtndlekaahjccdaaGreatDoorPA
set_option linter.all false
set_option maxRecDepth 100000
set_option maxHeartbeats 40000000
set_option maxHeartbeats 8000000
namespace Go.Proofs.YtndlekaahjccdaaGreatDoor
open Go.RowKit Go.Proofs.Tryz
def RP.fin(r:RP):Int:=r.fr+r.ct
def ovF:Nat->List RP->RP->Nat->Int->List RP->Nat×List RP
 | 0,_,_,i,_,acc=>(i,acc)
 | f+1,A,r,i,a,acc=>if ¬a<r.fin then(i,acc)else match A[i]? with
  | none=>ovF f A r i r.fin (acc ++ [r.part a r.fin])
  | some q=>if q.fin<=a then ovF f A r (i+1) a acc
   else if q.fr<=a then ovF f A r i (min r.fin q.fin) acc
   else ovF f A r i (min r.fin q.fr) (acc ++ [r.part a (min r.fin q.fr)])
def y3Y(A:List RP):List RP->Nat->List RP->List RP
 | [],_,acc=>acc
 | r::rs,i,acc=>y3Y A rs (ovF (r.ct.toNat+A.length+1) A r i r.fr acc).1 (ovF (r.ct.toNat+A.length+1) A r i r.fr acc).2
def OverPost(S:List RP)(B:Nat)(w:World)(e:Ending)(w':World):Prop:=
 ∃v X,e=.returned (.agg #[v])/\OwnR w' B v X/\(X.map RR.pl).Perm S/\(X.Pairwise fun a b=>a.fr<=b.fr)/\(∀r∈X,r.Ok w')/\Below w.heap.size w w'
theorem OwnR.bel{w w':World}{B:Nat}{v:Value}{X:List RR}(h:OwnR w B v X)(hb:Below w.heap.size w w'):OwnR w' B v X:=zK h hb
section
variable {P:Program} {ops:Array Oper} {rest:List Oper} {o:Oper} {a:Act} {Q:Exit->Act->World->Prop}
theorem y2z(He:o.guard=none)(s x:Operand)(t e:TypeId)(ho:o.op=.call { callee:=.builtin .append,args:=#[s,x],argTypes:=#[t,t] })(ht:P.underlying t=some (.slice e))
 (z:Value) (size bytes:Nat) (hi:(P.info? e).map (fun i=>(i.zero,i.size,i.bytes))=some (some z,size,bytes)) (H6:z.cells.size=size) (Ha:0<size)
 (W:World) (B:Nat) (v:Value) (n:Nat) (cs:List Value) (hs:a.eval s=v) (H5:W.ownsRow B e size v n cs) (news:Array Value) (Hb:news.size=size) (h1:∀u∈news.toList,u.oneCell'=true)
 (hx:a.eval x=.slice (some ⟨W.heap.size,0,none⟩) 1 1) (Hd:n<70368744177664) (Hf:(n+1)*bytes<=140737488355328) (hB:B<=W.heap.size)
 (h:∀v' w',w'.ownsRow B e size v' (n+1) (cs++news.toList)->Below B W w'->(∀k,k<W.heap.size->some k≠v.ownBlock->w'.heap[k]?=W.heap[k]?)->(v'.ownBlock=v.ownBlock\/v'.ownBlock=some (W.heap.size+1))->wpList P ops Q rest (a.put o.dst v') w'):wpList P ops Q (o::rest) a (W.alloc (.cells news e)):=by
 obtain⟨i0,hi,H9,H8,H7⟩:=info_parts hi;refine wpList_append_own_at _ He s x t ho B e i0 z size bytes ht hi H9 H8 H7 H6 Ha v n cs hs (zK H5 ((z8).alloc (zA) _)) ⟨W.heap.size,0,none⟩ 1 1 news.toList hx (by simp[Hb]) ?_ h1 ?_ ?_ ?_ ?_
 . intro j u hj
   have ea:(⟨W.heap.size,0,none⟩:Addr).add j=⟨W.heap.size,j,none⟩:=by
    by_cases h0:j=0
    . subst h0;rfl
    . simp[Addr.add,h0]
   rw[ea,World.cell?_alloc_new];simpa using hj
 . unfold maxLen;omega
 . exact Hf
 . simp;omega
 . intro v' w1 h2 h3 _ h4
   rw[World.size_alloc]at h4;refine h v' w1 h2 (((z8).alloc hB _).trans (y2L (zK H5 ((z8).alloc (zA) _)) h3 (by simp;omega))) (fun k hk Hc=>?_) h4;rw[h3.block k (by simp;omega) Hc];exact((z8).alloc (zA) _).block k hk
end
theorem yHV(f:Nat)(A:List RP)(r:RP)(i:Nat)(a:Int)(acc:List RP)(h:r.fin<=a):ovF (f+1) A r i a acc=(i,acc):=by rw[ovF,if_pos (by omega)]
theorem yHU(f:Nat)(A:List RP)(r:RP)(i:Nat)(a:Int)(acc:List RP)(h:a<r.fin)(hi:A[i]?=none):ovF (f+1) A r i a acc=ovF f A r i r.fin (acc ++ [r.part a r.fin]):=by rw[ovF,if_neg (by omega),hi]
theorem yHR(f:Nat)(A:List RP)(r q:RP)(i:Nat)(a:Int)(acc:List RP)(h:a<r.fin)(hi:A[i]?=some q)(h1:q.fin<=a):ovF (f+1) A r i a acc=ovF f A r (i+1) a acc:=by rw[ovF,if_neg (by omega),hi];simp only;rw[if_pos h1]
theorem yHT(f:Nat)(A:List RP)(r q:RP)(i:Nat)(a:Int)(acc:List RP)(h:a<r.fin)(hi:A[i]?=some q)(h1:a<q.fin)(h2:q.fr<=a):ovF (f+1) A r i a acc=ovF f A r i (min r.fin q.fin) acc:=by rw[ovF,if_neg (by omega),hi];simp only;rw[if_neg (by omega),if_pos h2]
theorem yHS(f:Nat)(A:List RP)(r q:RP)(i:Nat)(a:Int)(acc:List RP)(h:a<r.fin)(hi:A[i]?=some q)(h1:a<q.fin)(h2:a<q.fr):ovF (f+1) A r i a acc=ovF f A r i (min r.fin q.fr) (acc ++ [r.part a (min r.fin q.fr)]):=by rw[ovF,if_neg (by omega),hi];simp only;rw[if_neg (by omega),if_neg (by omega)]
theorem yHQ(va vb:Value)(A C:List RR)(B1 B2:Nat)(w:World)(hA:OwnR w B1 va A)(hC:OwnR w B2 vb C)(HQ:A ≠ [])(gB:A.length<=1000)(gZ:C.length<=1000)
 (gD:∀r∈A,r.pl.Good) (gC:∀r∈A,r.Ok w) (gA:∀r∈C,r.pl.Good) (gu:∀r∈C,r.Ok w):
 Calls prog 333 #[.agg #[va],.agg #[vb]] w (OverPost (y3Y (A.map RR.pl) (C.map RR.pl) 0 (A.map RR.pl)) w.heap.size w):=by
 obtain⟨R,hR⟩:∃R,R=y3Y (A.map RR.pl) (C.map RR.pl) 0 (A.map RR.pl):=⟨_,rfl⟩;rw[<-hR];obtain⟨ga,ca,rfl,_⟩:=y1F hA (by intro e;exact HQ (List.eq_nil_of_length_eq_zero e));obtain⟨ab,cb,rfl⟩:=zN hC;obtain⟨na,Ke⟩:∃na,na=A.length:=⟨_,rfl⟩;obtain⟨nc,Kd⟩:∃nc,nc=C.length:=⟨_,rfl⟩;have kcl:=fun w hA=>yGJ (.slice (some ⟨ga,0,none⟩) A.length ca) A B1 w hA HQ gB
 have kJ:∀e w',(∃v X,e=.returned (.agg #[v])/\OwnR w' w.heap.size v X/\(X.map RR.pl).Perm R/\(X.Pairwise fun a b=>a.fr<=b.fr)/\(∀r∈X,r.Ok w')/\Below w.heap.size w w')->OverPost R w.heap.size w e w':=fun _ _ h=>h
 rw[<-Ke]at gB kcl ⊢;rw[<-Kd]at gZ ⊢;obtain⟨W0,Hz⟩:∃W0,W0=((w.alloc (.cells #[.slice (some ⟨ga,0,none⟩) na ca] 228)).alloc (.cells #[.slice ab nc cb] 228)).alloc (.cells #[.slice none 0 0] 228):=⟨_,rfl⟩;have s1:(w.alloc (.cells #[.slice (some ⟨ga,0,none⟩) na ca] 228)).heap.size=w.heap.size+1:=World.size_alloc _ _;have s2:((w.alloc (.cells #[.slice (some ⟨ga,0,none⟩) na ca] 228)).alloc (.cells #[.slice ab nc cb] 228)).heap.size=w.heap.size+2:=by rw[World.size_alloc,s1]
 have kM:Below w.heap.size w W0:=by rw[Hz];exact bal (bal (bal (z8) _) _) _
 have t0:W0.cell? ⟨w.heap.size,0,none⟩=some (.slice (some ⟨ga,0,none⟩) na ca):=by rw[Hz];exact kc (bal (bal (z8) _) _) (by rw[World.cell?_alloc_new];rfl)
 have t1:W0.cell? ⟨w.heap.size+1,0,none⟩=some (.slice ab nc cb):=by rw[Hz,<-s1];exact kc (bal (z8) _) (by rw[World.cell?_alloc_new];rfl)
 have m2:Live W0 (w.heap.size+2) 0 (.slice none 0 0):=by rw[Hz,<-s2];exact Live.fresh _ _ _ 0 _ rfl
 have gE:W0.heap[w.heap.size+2]?=some (.cells #[.slice none 0 0] 228 (0,0)):=by rw[Hz,<-s2];exact heap_alloc_new _ _
 have HR:=z7 hR;have HA:=z7 hA;have HC:=z7 hC;have kW:=z7 Ke;have gJ:=z7 Kd;have Gj:=z7 gD;have Gi:=z7 gC;have Gf:=z7 gA;have Ge:=z7 gu;have KCL:=z7 kcl;have Kr:=z7 kJ;have Gb:=z7 Hz;have kx:=z7 kM;have T0:=z7 t0;have T1:=z7 t1;have M2:=z7 m2;have gL:=z7 gE;clear hR hA hC Ke Kd gD gC gA gu kcl kJ Hz kM t0 t1 m2 gE;clear s1 s2
 go_enter func333,ntmps333
 go_wp2_with fail
 rw[<-Gb.out];refine(KCL.out _ (by rw[kW.out];exact OwnR.bel HA.out kx.out)).mono ?_;rintro e W ⟨v5,rfl,kX,Hh⟩;have Kk:Below w.heap.size w W:=kx.out.trans (Hh.mono kx.out.size);have t0:=kc Hh T0.out;have t1:=kc Hh T1.out;have gQ:w.heap.size+2<W.heap.size:=(M2.out.keep Hh).lt;have kX:OwnR W W0.heap.size v5 A:=kX;have gF:=(Hh.block _ (Array.getElem?_eq_some_iff.1 gL.out).1).trans gL.out;have Hb:W0.heap.size<=W.heap.size:=Hh.size;have gY:w.heap.size+2<W0.heap.size:=M2.out.lt;have kR:∀r∈A,r.Ok W:=fun r hr=>(Gi.out r hr).keep Kk
 have Kt:=z7 Kk;have Gc:=z7 kX;have gK:=z7 gF;have Kv:=z7 kR;clear Kk kX gF kR;clear Hh
 go_wp2_with fail
 go_loopw [5,6,17] (fun s iv kv wr=>∃(k i:Nat) (acc:List RR),k<=nc/\kv=.int .i64 (k:Int)/\iv=.int .i64 (i:Int)/\i<=na/\OwnR wr W0.heap.size s acc/\Hid (R=y3Y (A.map RR.pl) ((C.drop k).map RR.pl) i (acc.map RR.pl)) /\
  Hid (∀r∈acc,r.Ok wr)/\acc.length<=1000+k*1048576/\acc ≠ []/\Below W0.heap.size W wr) (fun _ _ kv _=>nc-(intOf kv).toNat)
 case atStart=>exact⟨0,0,A,zD,rfl,rfl,zD,Gc.out,HR.out,Kv.out,by rw[<-kW.out];omega,HQ,z8⟩
 case round=>
  obtain⟨w1,rfl⟩:∃w1:World,w1=wr:=⟨_,rfl⟩;obtain⟨k,i,acc,hk,rfl,rfl,hi,Ha,He,Hk,gX,Ho,H7⟩:=hrel;have gi:Below w.heap.size w w1:=Kt.out.trans (H7.mono (by omega));have u0:w1.cell? ⟨w.heap.size,0,none⟩=some (.slice (some ⟨ga,0,none⟩) na ca):=(H7.cell (p:=⟨w.heap.size,0,none⟩) (by simp;omega)).trans t0;have gO:w.heap.size<w1.heap.size:=Nat.lt_of_lt_of_le (by omega) H7.size;by_cases gR:k<nc
  . obtain⟨r,hr⟩:=zM C k (by rw[<-gJ.out];exact gR)
    obtain⟨gc,capc,he,c0,c1,c2,c3⟩:=y1U (OwnR.bel HC.out gi) k r hr;simp only[Value.slice.injEq]at he;obtain⟨rfl,_,rfl⟩:=he;have kz:=Gf.out r (List.mem_of_getElem? hr);have gt:=Ge.out r (List.mem_of_getElem? hr);have hd:=drop_at C k (List.getElem?_eq_some_iff.1 hr).1;rw[(List.getElem?_eq_some_iff.1 hr).2]at hd;have e1:=He.out;rw[hd,List.map_cons,y3Y]at e1;obtain⟨rest,Hj⟩:∃rest,rest=(C.drop (k+1)).map RR.pl:=⟨_,rfl⟩;rw[<-Hj]at e1;have g0:=kz.1;have g1:=kz.2.1;have g2:=kz.2.2.1;have Hu:=fun(x y:Int) w (Hk:r.Ok w) h0 h1 h2=>yHO r x y w Hk kz h0 h1 h2
    obtain⟨f0,Kh⟩:∃f0,f0=r.pl.ct.toNat+(A.map RR.pl).length+1:=⟨_,rfl⟩;rw[<-Kh]at e1;have gU:r.ct.toNat+na<f0:=by rw[Kh,List.length_map,<-kW.out];show r.ct.toNat+na<r.ct.toNat+na+1;omega
    obtain⟨rf,rc,rt,ra,rl,rp,rs⟩:=r;simp only[RR.sv,RR.pl,RR.enc,RR.fin]at *;obtain⟨f,rfl⟩:=Int.eq_ofNat_of_zero_le g0;obtain⟨n,rfl⟩:=Int.eq_ofNat_of_zero_le (show 0<=rc from by omega);have kK:=fun w=>y5f f n rt (.slice ra rl rp) w (by omega) (by omega)
    have E1:=z7 e1;have HE:=z7 kK;have HP:=z7 Hu;have gG:=z7 gt;have kU:=z7 Hj;have Kn:=z7 Hk;have H8:=z7 Ha;have Gn:=z7 kz;clear e1 kK Hu gt Hj Hk Ha kz;clear hr hd He Kh
    go_wp2_with fail
    have gj:=heap_alloc_new w1 (.cells #[.int .i64 f,.int .i64 n,.int .i32 rt,.slice ra rl rp] 350);have gV:Below W0.heap.size W (w1.alloc (.cells #[.int .i64 f,.int .i64 n,.int .i32 rt,.slice ra rl rp] 350)):=H7.alloc (zE Hb H7.size) _;have KX:=OwnR.bel H8.out ((Below.refl w1.heap.size w1).alloc (zA) (.cells #[.int .i64 f,.int .i64 n,.int .i32 rt,.slice ra rl rp] 350));have kC:∀q∈acc,q.Ok (w1.alloc (.cells #[.int .i64 f,.int .i64 n,.int .i32 rt,.slice ra rl rp] 350)):=fun q hq=>(Kn.out q hq).keep ((Below.refl w1.heap.size w1).alloc (zA) _)
    have kF:∀q,Value.ownBlock _=some q->q≠w1.heap.size:=fun q hq=>Nat.ne_of_lt (zf H8.out q hq).2
    generalize w1.alloc (.cells #[.int .i64 f,.int .i64 n,.int .i32 rt,.slice ra rl rp] 350)=Wk at *;generalize gm:w1.heap.size=b8 at *;have gW:W0.heap.size<=b8:=by rw[<-gm];exact zE Hb H7.size
    have Gg:=z7 gj;have Km:=z7 kC;have Ko:=z7 kF;have Gd:=z7 KX;clear gj kC kF KX;clear gm H7 c0 c1 c2 c3 gi u0 gO
    go_loopw [5,6,9] (fun s iv av wq=>∃(i fu a:Nat) (acc:List RR),iv=.int .i64 (i:Int)/\i<=na/\av=.int .i64 (a:Int)/\f<=a/\a<=f+n/\OwnR wq W0.heap.size s acc /\
     Hid (R=y3Y (A.map RR.pl) rest (ovF fu (A.map RR.pl) ⟨f,n,rt,rs⟩ i a (acc.map RR.pl)).1 (ovF fu (A.map RR.pl) ⟨f,n,rt,rs⟩ i a (acc.map RR.pl)).2)/\(f+n-a)+(na-i)<fu/\Hid (∀q∈acc,q.Ok wq)/\acc.length<=1000+k*1048576+(a-f)/\acc ≠ [] /\
     Below W0.heap.size W wq/\Hid (wq.heap[b8]?=some (.cells #[.int .i64 f,.int .i64 n,.int .i32 rt,.slice ra rl rp] 350 (0,0)))/\Hid (∀q,s.ownBlock=some q->q≠b8)) (fun _ _ av _=>f+n-(intOf av).toNat)
    case atStart=>exact⟨i,f0,f,acc,rfl,hi,rfl,zA,by omega,Gd.out,E1.out,by simp at gU;omega,Km.out,by omega,Ho,gV,Gg.out,Ko.out⟩
    case round=>
     obtain⟨i,fu,a,acc,rfl,hi,rfl,Gm,Gl,Ha,He,Kg,Hk,gX,Ho,H7,Hq,Hn⟩:=hrel;obtain⟨wo,rfl⟩:∃wo:World,wo=wr:=⟨_,rfl⟩;have u0:wo.cell? ⟨w.heap.size,0,none⟩=some (.slice (some ⟨ga,0,none⟩) na ca):=(H7.cell (p:=⟨w.heap.size,0,none⟩) (by simp;omega)).trans t0;have d0:wo.cell? ⟨b8,0,none⟩=some (.int .i64 f):=by rw[cell_of_row _ _ _ _ _ _ Hq.out];rfl
     have d1:wo.cell? ⟨b8,1,none⟩=some (.int .i64 n):=by rw[cell_of_row _ _ _ _ _ _ Hq.out];rfl
     have d2:wo.cell? ⟨b8,2,none⟩=some (.int .i32 rt):=by rw[cell_of_row _ _ _ _ _ _ Hq.out];rfl
     have d3:wo.cell? ⟨b8,3,none⟩=some (.slice ra rl rp):=by rw[cell_of_row _ _ _ _ _ _ Hq.out];rfl
     have H5:Below wo.heap.size wo wo:=z8;have Kx:Below w.heap.size w wo:=Kt.out.trans (H7.mono (by omega));have KZ:(⟨f,n,rt,rs⟩:RP).fin=(f:Int)+n:=rfl;have V0:=z7 u0;have V1:=z7 d0;have V2:=z7 d1;have V3:=z7 d2;have V4:=z7 d3;have H8:=z7 Ha;have Ga:=z7 Kx;have Hv:=z7 KZ;clear Ha Kx KZ;by_cases kZ:(a:Int)<f+n
     . go_wp2_with (go_at_call 335;with_reducible refine(HE.out _).mono ?_;rintro e wa ⟨rfl,H6⟩;have H5:=bt H5 H6;have d0:=kc H6 d0;have d1:=kc H6 d1;have d2:=kc H6 d2;have d3:=kc H6 d3;have u0:=kc H6 u0)
       have Ki:=Ga.out
       go_loopw [6] (fun iv wz=>∃(i fu:Nat),iv=.int .i64 (i:Int)/\i<=na/\Hid (R=y3Y (A.map RR.pl) rest (ovF fu (A.map RR.pl) ⟨f,n,rt,rs⟩ i a (acc.map RR.pl)).1 (ovF fu (A.map RR.pl) ⟨f,n,rt,rs⟩ i a (acc.map RR.pl)).2) /\
        (f+n-a)+(na-i)<fu/\Below wo.heap.size wo wz) (fun iv _=>na-(intOf iv).toNat)
       case atStart=>exact⟨i,fu,rfl,hi,He.out,Kg,H5⟩
       case round=>
        clear He Kg hi;obtain⟨i,fu,rfl,hi,He,Kg,H5⟩:=hrel;have u0:=kc H5 V0.out;have d0:=kc H5 V1.out;have d1:=kc H5 V2.out;have d2:=kc H5 V3.out;have d3:=kc H5 V4.out;by_cases gT:i<na
        . obtain⟨q,hq⟩:=zM A i (by rw[<-kW.out];exact gT)
          obtain⟨gq,capq,he,c0,c1,c2,c3⟩:=y1U (OwnR.bel HA.out (bt Ki H5)) i q hq;simp only[Value.slice.injEq,Option.some.injEq,Addr.mk.injEq]at he;obtain⟨⟨rfl,_,_⟩,_,rfl⟩:=he;have K9:=Gj.out q (List.mem_of_getElem? hq);have q0:=K9.1;have q1:=K9.2.1;have q2:=K9.2.2.1;have Ky:(A.map RR.pl)[i]?=some q.pl:=by rw[List.getElem?_map,hq];rfl
          obtain⟨qf,qc,qt,qa,ql,qp,qs⟩:=q;simp only[RR.sv,RR.pl]at *;obtain⟨qf,rfl⟩:=Int.eq_ofNat_of_zero_le q0;obtain⟨qc,rfl⟩:=Int.eq_ofNat_of_zero_le (show 0<=qc from by omega);have gf:=fun w=>y5f qf qc qt (.slice qa ql qp) w (by omega) (by omega)
          have gd:(⟨qf,qc,qt,qs⟩:RP).fin=(qf:Int)+qc:=rfl;obtain⟨fu,rfl⟩:∃g,fu=g+1:=⟨fu-1,by omega⟩;have Ks:=z7 gf;have Kb:=z7 gd;have Kl:=z7 Ky;clear gf gd Ky;clear hq K9;by_cases gN:(qf:Int)+qc<=a
          . have e3:=He.out
            rw[yHR fu _ _ _ _ _ _ (by rw[Hv.out];exact kZ) Kl.out (by rw[Kb.out];exact gN)]at e3;have E3:=z7 e3;clear e3;clear He
            go_wp2_with (go_at_call 335;with_reducible refine(Ks.out _).mono ?_;rintro e wa ⟨rfl,H6⟩;have H5:=bt H5 H6;have d0:=kc H6 d0;have d1:=kc H6 d1;have d2:=kc H6 d2;have d3:=kc H6 d3;have u0:=kc H6 u0;have c0:=kc H6 c0;have c1:=kc H6 c1;have c2:=kc H6 c2;have c3:=kc H6 c3)
            go_roundw
            case rel=>exact⟨i+1,fu,by go_num,by omega,E3.out,by omega,H5⟩
            case measure=>simp[intOf];omega
          . by_cases gM:(qf:Int)<=a
            . have e3:=He.out
              rw[yHT fu _ _ _ _ _ _ (by rw[Hv.out];exact kZ) Kl.out (by rw[Kb.out];omega) gM]at e3;rw[Hv.out,Kb.out]at e3;obtain⟨nx,Hw⟩:∃nx:Nat,min ((f:Int)+n) ((qf:Int)+qc)=(nx:Int):=⟨(min ((f:Int)+n) ((qf:Int)+qc)).toNat,by omega⟩;have Hc:a<nx/\nx<=f+n:=by omega
              obtain⟨Hc,kD⟩:=Hc;rw[Hw]at e3;have E3:=z7 e3;clear e3;clear He
              go_wp2_with (first|(go_at_call 335;with_reducible refine(HE.out _).mono ?_;rintro e wa ⟨rfl,H6⟩;have H5:=bt H5 H6;have d0:=kc H6 d0;have d1:=kc H6 d1;have d2:=kc H6 d2;have d3:=kc H6 d3;have u0:=kc H6 u0;have c0:=kc H6 c0;have c1:=kc H6 c1;have c2:=kc H6 c2;have c3:=kc H6 c3)|(go_at_call 335;with_reducible refine(Ks.out _).mono ?_;rintro e wa ⟨rfl,H6⟩;have H5:=bt H5 H6;have d0:=kc H6 d0;have d1:=kc H6 d1;have d2:=kc H6 d2;have d3:=kc H6 d3;have u0:=kc H6 u0;have c0:=kc H6 c0;have c1:=kc H6 c1;have c2:=kc H6 c2;have c3:=kc H6 c3))
              have Hf:=z7 H5;clear H5;have Ht:=(Hf.out.block b8 (Array.getElem?_eq_some_iff.1 Hq.out).1).trans Hq.out;have H9:∀q∈acc,q.Ok _:=fun q hq=>(Hk.out q hq).keep Hf.out
              have Hs:Below W0.heap.size W _:=H7.trans (Hf.out.mono (zE Hb H7.size));have Hl:=OwnR.bel H8.out Hf.out;have kV:=z7 Ht;have Hi:=z7 H9;have k9:=z7 Hl;clear Ht H9 Hl;go_roundw
              case rel=>exact⟨i,fu,nx,acc,rfl,by omega,by first|rfl|go_num,by omega,by omega,k9.out,E3.out,by omega,Hi.out,by omega,Ho,Hs,kV.out,Hn.out⟩
              case measure=>simp[intOf];omega
            . have e3:=He.out
              rw[yHS fu _ _ _ _ _ _ (by rw[Hv.out];exact kZ) Kl.out (by rw[Kb.out];omega) (by show(a:Int)<qf;omega)]at e3;obtain⟨nx,Hw⟩:∃nx:Nat,min ((f:Int)+n) (qf:Int)=(nx:Int):=⟨(min ((f:Int)+n) (qf:Int)).toNat,by omega⟩;have Hc:a<nx/\nx<=f+n:=by omega
              obtain⟨Hc,kD⟩:=Hc;rw[Hv.out]at e3;simp only at e3;rw[Hw]at e3;have E3:=z7 e3;clear e3;clear He
              go_wp2_with (first|(go_at_call 335;with_reducible refine(HE.out _).mono ?_;rintro e wa ⟨rfl,H6⟩;have H5:=bt H5 H6;have d0:=kc H6 d0;have d1:=kc H6 d1;have d2:=kc H6 d2;have d3:=kc H6 d3;have u0:=kc H6 u0;have c0:=kc H6 c0;have c1:=kc H6 c1;have c2:=kc H6 c2;have c3:=kc H6 c3)|(go_at_call 335;with_reducible refine(Ks.out _).mono ?_;rintro e wa ⟨rfl,H6⟩;have H5:=bt H5 H6;have d0:=kc H6 d0;have d1:=kc H6 d1;have d2:=kc H6 d2;have d3:=kc H6 d3;have u0:=kc H6 u0;have c0:=kc H6 c0;have c1:=kc H6 c1;have c2:=kc H6 c2;have c3:=kc H6 c3)|(go_at_call 380;refine(HP.out (a:Int) (nx:Int) _ (gG.out.keep (bt Ki H5)) (by omega) (by omega) (by omega)).mono ?_;rintro e wb ⟨⟨pf,pc,pt,pa,pl,pp,ps⟩,rfl,kY,Kc,H6⟩;have H5:=bt H5 H6;simp only[RR.enc,RR.sv])|(at_builtin;(refine y2z rfl _ _ 226 350 rfl underlying226 (.agg #[.int .i64 0,.int .i64 0,.int .i32 0,.slice none 0 0]) 4 48 y5T rfl (by decide) wb W0.heap.size u5 acc.length (rcells acc) rfl (OwnR.bel H8.out H5) #[.int .i64 pf,.int .i64 pc,.int .i32 pt,.slice pa pl pp] rfl (by simp[Value.oneCell']) rfl (by omega) (by omega) (zE (zE Hb H7.size) H5.size) ?_;intro v' w4 kP Hs Hy Hd)))
              have kA:=OwnR.bel H8.out H5;have Hr:=(H5.block b8 (Array.getElem?_eq_some_iff.1 Hq.out).1).trans Hq.out;have Ht:=(Hy b8 (Array.getElem?_eq_some_iff.1 Hr).1 (fun e=>Hn.out b8 e.symm rfl)).trans Hr;have Hg:∀q:RR,q.Ok wb->q.Ok w4:=fun q hq=>hq.blk fun j cur hj=>Hy j (Array.getElem?_eq_some_iff.1 hj).1 (fun e=>(y0f kA hj (by decide)) e.symm)
              have H9:∀q∈acc ++ [(⟨pf,pc,pt,pa,pl,pp,ps⟩:RR)],q.Ok w4:=by
               intro q hq;rcases List.mem_append.1 hq with h|h
               . exact Hg q ((Hk.out q h).keep H5)
               . simp only[List.mem_singleton]at h;rw[h];exact Hg _ Kc
              have Hl:OwnR w4 W0.heap.size v' (acc ++ [(⟨pf,pc,pt,pa,pl,pp,ps⟩:RR)]):=by unfold OwnR;rw[y0e,zH];exact kP
              have kH:∀q,v'.ownBlock=some q->q≠b8:=by
               intro q hq;rcases Hd with h|h
               . exact Hn.out q (h.symm.trans hq)
               . rw[h]at hq
                 have hl:=(Array.getElem?_eq_some_iff.1 Hr).1;simp only[Option.some.injEq]at hq;omega
              have e9:R=y3Y (A.map RR.pl) rest (ovF fu (A.map RR.pl) ⟨f,n,rt,rs⟩ i (nx:Nat) ((acc ++ [(⟨pf,pc,pt,pa,pl,pp,ps⟩:RR)]).map RR.pl)).1 (ovF fu (A.map RR.pl) ⟨f,n,rt,rs⟩ i (nx:Nat) ((acc ++ [(⟨pf,pc,pt,pa,pl,pp,ps⟩:RR)]).map RR.pl)).2:=by
               rw[List.map_append,List.map_cons,List.map_nil,kY];exact E3.out
              have kO:Below W0.heap.size W w4:=(H7.trans (H5.mono (zE Hb H7.size))).trans Hs;have kI:(acc ++ [(⟨pf,pc,pt,pa,pl,pp,ps⟩:RR)]).length<=1000+k*1048576+(nx-f):=by rw[zH];simp;omega
              have kV:=z7 Ht;have Hi:=z7 H9;have k9:=z7 Hl;have Kp:=z7 kH;have E9:=z7 e9;have Ku:=z7 kO;have Kq:=z7 kI;clear Ht H9 Hl kH e9 kO kI;clear Hy kP Hs Hg kA Hr Hd;go_roundw
              case rel=>exact⟨i,fu,nx,_,rfl,by omega,by first|rfl|go_num,by omega,by omega,k9.out,E9.out,by omega,Hi.out,Kq.out,by simp,Ku.out,kV.out,Kp.out⟩
              case measure=>simp[intOf];omega
        . have e3:=He.out
          have Hm:(A.map RR.pl)[i]?=none:=by rw[List.getElem?_eq_none];rw[List.length_map,<-kW.out];omega
          obtain⟨fu,rfl⟩:∃g,fu=g+1:=⟨fu-1,by omega⟩;rw[yHU fu _ _ _ _ _ (by rw[Hv.out];exact kZ) Hm]at e3;rw[Hv.out]at e3;obtain⟨nx,Hw⟩:∃nx:Nat,(f:Int)+n=(nx:Int):=⟨f+n,by omega⟩;have Hc:a<nx/\nx<=f+n:=by omega
          obtain⟨Hc,kD⟩:=Hc;rw[Hw]at e3;have Kf:i=na:=by omega
          subst Kf;have E3:=z7 e3;have gI:=z7 Hm;have gH:=z7 Hw;clear e3 Hm Hw;clear He
          go_wp2_with (first|(go_at_call 335;with_reducible refine(HE.out _).mono ?_;rintro e wa ⟨rfl,H6⟩;have H5:=bt H5 H6;have d0:=kc H6 d0;have d1:=kc H6 d1;have d2:=kc H6 d2;have d3:=kc H6 d3;have u0:=kc H6 u0)|(go_at_call 380;refine(HP.out (a:Int) ((f:Int)+n) _ (gG.out.keep (bt Ki H5)) (by omega) (by omega) (by omega)).mono ?_;rintro e wb ⟨⟨pf,pc,pt,pa,pl,pp,ps⟩,rfl,kY,Kc,H6⟩;have H5:=bt H5 H6;simp only[RR.enc,RR.sv])|(at_builtin;(refine y2z rfl _ _ 226 350 rfl underlying226 (.agg #[.int .i64 0,.int .i64 0,.int .i32 0,.slice none 0 0]) 4 48 y5T rfl (by decide) wb W0.heap.size u5 acc.length (rcells acc) rfl (OwnR.bel H8.out H5) #[.int .i64 pf,.int .i64 pc,.int .i32 pt,.slice pa pl pp] rfl (by simp[Value.oneCell']) rfl (by omega) (by omega) (zE (zE Hb H7.size) H5.size) ?_;intro v' w4 kP Hs Hy Hd)))
          rw[gH.out]at kY;have kA:=OwnR.bel H8.out H5;have Hr:=(H5.block b8 (Array.getElem?_eq_some_iff.1 Hq.out).1).trans Hq.out;have Ht:=(Hy b8 (Array.getElem?_eq_some_iff.1 Hr).1 (fun e=>Hn.out b8 e.symm rfl)).trans Hr;have Hg:∀q:RR,q.Ok wb->q.Ok w4:=fun q hq=>hq.blk fun j cur hj=>Hy j (Array.getElem?_eq_some_iff.1 hj).1 (fun e=>(y0f kA hj (by decide)) e.symm)
          have H9:∀q∈acc ++ [(⟨pf,pc,pt,pa,pl,pp,ps⟩:RR)],q.Ok w4:=by
           intro q hq;rcases List.mem_append.1 hq with h|h
           . exact Hg q ((Hk.out q h).keep H5)
           . simp only[List.mem_singleton]at h;rw[h];exact Hg _ Kc
          have Hl:OwnR w4 W0.heap.size v' (acc ++ [(⟨pf,pc,pt,pa,pl,pp,ps⟩:RR)]):=by unfold OwnR;rw[y0e,zH];exact kP
          have kH:∀q,v'.ownBlock=some q->q≠b8:=by
           intro q hq;rcases Hd with h|h
           . exact Hn.out q (h.symm.trans hq)
           . rw[h]at hq
             have hl:=(Array.getElem?_eq_some_iff.1 Hr).1;simp only[Option.some.injEq]at hq;omega
          have e9:R=y3Y (A.map RR.pl) rest (ovF fu (A.map RR.pl) ⟨f,n,rt,rs⟩ i (nx:Nat) ((acc ++ [(⟨pf,pc,pt,pa,pl,pp,ps⟩:RR)]).map RR.pl)).1 (ovF fu (A.map RR.pl) ⟨f,n,rt,rs⟩ i (nx:Nat) ((acc ++ [(⟨pf,pc,pt,pa,pl,pp,ps⟩:RR)]).map RR.pl)).2:=by
           rw[List.map_append,List.map_cons,List.map_nil,kY];exact E3.out
          have kO:Below W0.heap.size W w4:=(H7.trans (H5.mono (zE Hb H7.size))).trans Hs;have kI:(acc ++ [(⟨pf,pc,pt,pa,pl,pp,ps⟩:RR)]).length<=1000+k*1048576+(nx-f):=by rw[zH];simp;omega
          have kV:=z7 Ht;have Hi:=z7 H9;have k9:=z7 Hl;have Kp:=z7 kH;have E9:=z7 e9;have Ku:=z7 kO;have Kq:=z7 kI;clear Ht H9 Hl kH e9 kO kI;clear Hy kP Hs Hg kA Hr Hd;go_roundw
          case rel=>exact⟨i,fu,nx,_,rfl,by omega,by first|rfl|rw[gH.out],by omega,by omega,k9.out,E9.out,by omega,Hi.out,Kq.out,by simp,Ku.out,kV.out,Kp.out⟩
          case measure=>simp[intOf];omega
     . have e3:=He.out
       obtain⟨fu,rfl⟩:∃g,fu=g+1:=⟨fu-1,by omega⟩;rw[yHV fu _ _ _ _ _ (by rw[Hv.out];omega)]at e3;simp only at e3;rw[kU.out]at e3;have E3:=z7 e3;clear e3;clear He
       go_wp2_with (go_at_call 335;with_reducible refine(HE.out _).mono ?_;rintro e wa ⟨rfl,H6⟩;have H5:=bt H5 H6;have d0:=kc H6 d0;have d1:=kc H6 d1;have d2:=kc H6 d2;have d3:=kc H6 d3;have u0:=kc H6 u0)
       have Hf:=z7 H5;clear H5;have H9:∀q∈acc,q.Ok _:=fun q hq=>(Hk.out q hq).keep Hf.out
       have Hs:Below W0.heap.size W _:=H7.trans (Hf.out.mono (zE Hb H7.size));have Hl:=OwnR.bel H8.out Hf.out;have Hi:=z7 H9;have k9:=z7 Hl;clear H9 Hl;go_roundw
       case rel=>exact⟨k+1,i,acc,by omega,by go_num,rfl,hi,k9.out,E3.out,Hi.out,by omega,Ho,Hs⟩
       case measure=>simp[intOf];omega
  . have gS:k=nc:=by omega
    subst gS;have e1:R=acc.map RR.pl:=by rw[He.out,List.drop_of_length_le (by rw[gJ.out];exact zA)];rfl
    obtain⟨a9,c9,rfl⟩:=zN Ha;have gl:=fun w' h=>y6c (.slice a9 acc.length c9) acc W0.heap.size w' h Ho (by omega)
    have Hp:=(H7.block (w.heap.size+2) (by omega)).trans gK.out;have gP:w.heap.size+2<w1.heap.size:=(Array.getElem?_eq_some_iff.1 Hp).1;have a1:w1.cell? ⟨w.heap.size+1+1,0,none⟩=some (.slice none 0 0):=by rw[cell_of_row _ _ _ _ _ _ Hp];rfl
    have a2:w1.frozen? ⟨w.heap.size+1+1,0,none⟩=false:=by
     have h':w1.heap[w.heap.size+1+1]?=some (.cells #[.slice none 0 0] 228 (0,0)):=Hp;simp[World.frozen?,h']
    have Kz:=(fun q hq=>(zf Ha q hq).1);have Gh:=z7 gl;have H8:=z7 Ha;have Gk:=z7 Hp;have E1:=z7 e1;have Ka:=z7 Kz;have Kn:=z7 Hk;clear gl Ha Hp e1 Kz Hk
    go_wp2_with fail
    refine(Gh.out _ H8.out).mono ?_;rintro e w2 ⟨rfl,X',ky,gr,kQ⟩;have b1:=y3n a1 kQ (fun e=>by have:=Ka.out _ e;omega);have b2:=y3K a1 a2 kQ (fun e=>by have:=Ka.out _ e;omega);have gp:Below W0.heap.size W w2:=H7.grown kQ (zE Hb H7.size) Ka.out;have kT:=(gp.block (w.heap.size+2) (by omega)).trans gK.out;clear a1 a2;have G9:=z7 ky;have G8:=z7 gr;have G7:=z7 kQ;have Kw:=z7 kT;clear ky gr kQ kT
    go_wp2_with fail
    refine bodyPost_ret (v:=.agg #[.slice a9 acc.length c9]) (by simp[results,results333,go_sem,b1,b2]) rfl ?_;have Kj:Below w.heap.size w w2:=Kt.out.trans (gp.mono (by omega));have ky:=G9.out;refine Kr.out _ _ ⟨_,X',rfl,?_,?_,ky.2,?_,Kj.setCell (show w.heap.size<=_ from by simp only;omega) _⟩
    . exact zd (za G8.out fun q hq=>by
       have:=Ka.out q hq;rw[Below.heap_setCell _ _ _ _ (by simp only;omega)]) (by omega)
    . rw[E1.out];exact ky.1.map _
    . intro r hr
      have h0:=yCd (Kn.out r (ky.1.mem_iff.1 hr)) G7.out H8.out (by decide);refine h0.blk fun q cur hq=>?_
      have e0:q≠w.heap.size+1+1:=fun e=>by
       have:=Kw.out;rw[e,show w.heap.size+1+1=w.heap.size+2 from rfl,this]at hq;simp at hq
      rw[Below.heap_setCell _ _ _ _ e0]
theorem yGI(v:Value)(X:List RR)(B c1 c2:Nat)(code:Int)(k:Nat)(w:World)(hX:OwnR w B v X)(hG:∀r∈X,r.pl.Good)(hk:k<X.length)(hl:X.length<=2000)(hc:w.cell? ⟨c1,0,none⟩=some (.int .i64 code))(ht:w.cell? ⟨c2,0,none⟩=some v):
 Calls prog 388 #[.int .i64 k,.pointer (some ⟨c1,0,none⟩),.pointer (some ⟨c2,0,none⟩)] w fun e w'=>e=.returned (.bool (decide (code<(X.getD k default).fin)))/\Below w.heap.size w w':=by
 obtain⟨r,hr⟩:=zM X k hk;have hd:X.getD k default=r:=by simp[List.getD,hr]
 rw[hd];obtain⟨g,cap,rfl,d0,d1,d2,d3⟩:=y1U hX k r hr;have H5:=hG r (List.mem_of_getElem? hr);have g0:=H5.1;have g1:=H5.2.1;have g2:=H5.2.2.1;obtain⟨rf,rc,rt,ra,rl,rp,rs⟩:=r;simp only[RR.sv,RR.pl,RR.fin]at *;have he:=fun w=>y5f rf rc rt (.slice ra rl rp) w (by omega) (by omega)
 have q0:=fun x:Grown w=>x.cell hc
 have q1:=fun x:Grown w=>x.cell ht
 have q2:=fun x:Grown w=>x.cell d0
 have q3:=fun x:Grown w=>x.cell d1
 have q4:=fun x:Grown w=>x.cell d2
 have q5:=fun x:Grown w=>x.cell d3
 have H8:(k:Int)<X.length:=by omega
 generalize X.length=n at *;have HE:=z7 he;clear he;clear hX hG hr hd H5
 go_enter func388,ntmps388
 go_wp2_with fail
 refine zj (by kernel_rfl) (by kernel_rfl) ?_
 repeat (first|go_big_quiet_step ((go_at_call 335;with_reducible exact Calls.grown_of (HE.out _)))|quiet_step ((go_at_call 335;with_reducible exact Calls.grown_of (HE.out _))))
 refine wpQuiet_nil ?_;intro _ H6;obtain⟨xg,rfl⟩:=H6;have H7:=xg.bel
 go_wp2_with fail
 go_ret
 exact⟨rfl,H7⟩
theorem yCK(v:Value)(X:List RR)(B c1 c2:Nat)(code:Int)(w:World)(hX:OwnR w B v X)(hG:∀r∈X,r.pl.Good)(hl:X.length<=2000)(hc:w.cell? ⟨c1,0,none⟩=some (.int .i64 code))(ht:w.cell? ⟨c2,0,none⟩=some v)
 (hm:∀a b,a<=b->b<X.length->code<(X.getD a default).fin->code<(X.getD b default).fin):
 Calls prog 387 #[.int .i64 X.length,.func (.func 388) #[] #[.pointer (some ⟨c1,0,none⟩),.pointer (some ⟨c2,0,none⟩)]] w
  fun e w'=>∃k:Nat,e=.returned (.int .i64 k)/\k<=X.length/\(∀j,j<k->¬code<(X.getD j default).fin)/\(k<X.length->code<(X.getD k default).fin)/\Below w.heap.size w w':=by
 have kc1:=fun(k:Nat) w' (hb:Below w.heap.size w w') hk=>yGI v X B c1 c2 code k w' (zK hX hb) hG hk hl (kc hb hc) (kc hb ht)
 obtain⟨n,hn⟩:∃n,n=X.length:=⟨_,rfl⟩;rw[<-hn]at hl hm kc1 ⊢;have K1:=z7 kc1;have HM:=z7 hm;have HN:=z7 hn;clear kc1 hm hn;clear hX hG hc ht
 go_enter func387,ntmps387
 go_wp2_with fail
 go_loopw [5,6] (fun iv jv wr=>∃(i j:Nat),iv=.int .i64 (i:Int)/\jv=.int .i64 (j:Int)/\i<=j/\j<=n/\Hid (∀q,q<i->(X.getD q default).fin<=code)/\Hid (j<n->code<(X.getD j default).fin)/\Below w.heap.size w wr) (fun iv jv _=>(intOf jv-intOf iv).toNat)
 case atStart=>exact⟨0,n,rfl,rfl,zD,zA,by intro q hq;omega,by intro h;omega,z8⟩
 case round=>
  obtain⟨i,j,rfl,rfl,He,hj,h1,h2,H5⟩:=hrel;by_cases Hd:i<j
  . obtain⟨h,hh⟩:∃h:Nat,h=(i+j)/2:=⟨_,rfl⟩
    have Ha:i<=h/\h<j:=by omega
    obtain⟨Ha,Hf⟩:=Ha;have k1:=K1.out h wr H5 (by omega);have Hb:((i:Int)+j)/2=(h:Int):=by omega
    have Hc:IntKind.i64.wrap ((i:Int)+j)=(i:Int)+j:=wi64 _ (by omega) (by omega);by_cases hp:code<(X.getD h default).fin
    . rw[decide_eq_true hp]at k1
      have KK:=z7 k1;have HH:=z7 hh;have HP:=z7 hp;clear k1 hh hp
      go_wp2_with (go_at_call 388;with_reducible refine KK.out.mono ?_;rintro e w1 ⟨rfl,H8⟩)
      go_roundw
      case rel=>exact⟨i,h,rfl,rfl,by omega,by omega,h1.out,fun _=>HP.out,bt H5 H8⟩
      case measure=>simp[intOf];omega
    . rw[decide_eq_false hp]at k1
      have H6:∀q,q<h+1->(X.getD q default).fin<=code:=fun q hq=>Int.not_lt.1 fun hc=>hp (HM.out q h (by omega) (by omega) hc)
      have KK:=z7 k1;have HH:=z7 hh;have HP:=z7 hp;have H9:=z7 H6;clear k1 hh hp H6
      go_wp2_with (go_at_call 388;with_reducible refine KK.out.mono ?_;rintro e w1 ⟨rfl,H8⟩)
      go_roundw
      case rel=>exact⟨h+1,j,by go_num,rfl,by omega,by omega,H9.out,h2.out,bt H5 H8⟩
      case measure=>simp[intOf];omega
  . have H7:i=j:=by omega
    subst H7
    go_wp2_with fail
    go_ret
    exact⟨i,rfl,hj,fun q hq=>h1.out q hq,fun h=>h2.out h,H5⟩
theorem yAM(v:Value)(X:List RR)(B:Nat)(code:Int)(k:Nat)(r:RR)(w:World)(hX:OwnR w B v X)(hG:∀r∈X,r.pl.Good)(hO:∀r∈X,r.Ok w)(hl:X.length<=2000)
 (hr:X[k]?=some r) (h0:r.fr<=code) (h1:code<r.fin) (Hb:∀j,j<k->¬code<(X.getD j default).fin)
 (hm:∀a b,a<=b->b<X.length->code<(X.getD a default).fin->code<(X.getD b default).fin):
 Calls prog 343 #[.agg #[v],.int .i64 code] w fun e w'=>e=.returned (.tuple #[.int .i32 (r.pl.sign code),.bool true])/\Below w.heap.size w w':=by
 have Hh:=(List.getElem?_eq_some_iff.1 hr).1;have hd:X.getD k default=r:=by simp[List.getD,hr]
 have H8:=hG r (List.mem_of_getElem? hr);have Hc:=hO r (List.mem_of_getElem? hr);obtain⟨g,cap,rfl,d0,d1,d2,d3⟩:=y1U hX k r hr;obtain⟨W,hW⟩:∃W,W=(w.alloc (.cells #[.slice (some ⟨g,0,none⟩) X.length cap] 228)).alloc (.cells #[.int .i64 code] 3):=⟨_,rfl⟩;have s1:(w.alloc (.cells #[.slice (some ⟨g,0,none⟩) X.length cap] 228)).heap.size=w.heap.size+1:=World.size_alloc _ _;have H5:Below w.heap.size w W:=by rw[hW];exact bal (bal (z8) _) _
 have t0:W.cell? ⟨w.heap.size,0,none⟩=some (.slice (some ⟨g,0,none⟩) X.length cap):=by rw[hW];exact kc (bal (z8) _) (by rw[World.cell?_alloc_new];rfl)
 have t1:W.cell? ⟨w.heap.size+1,0,none⟩=some (.int .i64 code):=by rw[hW,<-s1,World.cell?_alloc_new];rfl
 have ks:=yCK _ X B (w.heap.size+1) w.heap.size code W (zK hX H5) hG hl t1 t0 hm;have ks2:Calls prog 387 #[.int .i64 X.length,.func (.func 388) #[] #[.pointer (some ⟨w.heap.size+1,0,none⟩),.pointer (some ⟨w.heap.size,0,none⟩)]] W fun e w'=>e=.returned (.int .i64 k)/\Below W.heap.size W w':=
  ks.mono fun e w' ⟨j,he,hj,h2,h3,hb⟩=>by
   have:j=k:=by
    rcases Nat.lt_trichotomy j k with h|h|h
    . exact absurd (h3 (by omega)) (Hb j h)
    . exact h
    . exact absurd (by rw[hd];exact h1) (h2 k h)
   subst this;exact⟨he,hb⟩
 have Hk:=H8;have g0:=H8.1;have g2:=H8.2.2.1;have ksg:=fun w' (H9:r.Ok w')=>y54 r code w' H9 h0 h1 g0 (by have:r.fr+r.ct<=1048576:=g2;unfold RR.fin;omega) H8.2.2.2.1 (by have:r.tq+r.ct<=2097152:=H8.2.2.2.2.1;omega) H8.2.2.2.2.2
 have Hg:r.sign code=r.pl.sign code:=rfl;rw[Hg]at ksg;generalize r.pl.sign code=q at *;have Ho:(k:Int)<X.length:=by omega
 have Hn:((k:Int)==(X.length:Int))=false:=by simp;omega
 obtain⟨rf,rc,rt,ra,rl,rp,rs⟩:=r;simp only[RR.sv,RR.pl,RR.fin,RR.enc]at *;have Hm:decide (code<rf)=false:=by simpa using h0
 have e0:=kc H5 d0;have e1:=kc H5 d1;have e2:=kc H5 d2;have e3:=kc H5 d3;have Hd:=Hc.keep H5;generalize X.length=n at *;have KS:=z7 ks2;have KSG:=z7 ksg;have HW:=z7 hW;have Hl:=z7 Hd;have Hf:=z7 H5;have E0:=z7 e0;have E1:=z7 e1;have E2:=z7 e2;have E3:=z7 e3;have T0:=z7 t0;have T1:=z7 t1;clear ks2 ksg hW Hd H5 e0 e1 e2 e3 t0 t1;clear hX hG hO hl hr Hb hm Hh hd H8 Hc d0 d1 d2 d3 s1 ks Hk
 go_enter func343,ntmps343
 go_wp2_with fail
 rw[<-HW.out];refine KS.out.mono ?_;rintro e w1 ⟨rfl,H7⟩;have a0:=fun x:Grown w1=>x.cell (kc H7 T0.out)
 have a1:=fun x:Grown w1=>x.cell (kc H7 T1.out)
 have a2:=fun x:Grown w1=>x.cell (kc H7 E0.out)
 have a3:=fun x:Grown w1=>x.cell (kc H7 E1.out)
 have a4:=fun x:Grown w1=>x.cell (kc H7 E2.out)
 have a5:=fun x:Grown w1=>x.cell (kc H7 E3.out)
 go_wp2_with fail
 refine zj (by kernel_rfl) (by kernel_rfl) ?_
 repeat (first|go_big_quiet_step ((fail))|quiet_step ((fail)))
 refine wpQuiet_nil ?_;intro _ Ha;obtain⟨xg,rfl⟩:=Ha;have Hj:=xg.bel;have H6:=bt H7 Hj;clear a0 a1 a2 a3 a4 a5;generalize xg.wd=w2 at *;clear xg;have a0:=fun x:Grown w2=>x.cell (kc H6 T0.out)
 have a1:=fun x:Grown w2=>x.cell (kc H6 T1.out)
 have a2:=fun x:Grown w2=>x.cell (kc H6 E0.out)
 have a3:=fun x:Grown w2=>x.cell (kc H6 E1.out)
 have a4:=fun x:Grown w2=>x.cell (kc H6 E2.out)
 have a5:=fun x:Grown w2=>x.cell (kc H6 E3.out)
 have H9:=Hl.out.keep H6;have He:=z7 H9;clear H9
 go_wp2_with fail
 refine zj (by kernel_rfl) (by kernel_rfl) ?_
 repeat (first|go_big_quiet_step ((go_at_call 336;with_reducible exact Calls.grown_of (KSG.out _ (He.out.keep (Grown.bel _)))))|quiet_step ((go_at_call 336;with_reducible exact Calls.grown_of (KSG.out _ (He.out.keep (Grown.bel _))))))
 refine wpQuiet_nil ?_;intro _ Ha;obtain⟨xg,rfl⟩:=Ha;have Hi:=xg.bel
 go_wp2_with fail
 go_ret2
 exact⟨rfl,bt (Hf.out.trans (H6.mono Hf.out.size)) Hi⟩
