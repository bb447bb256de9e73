/- PD -/
import Derived.Test.YtndlekaahjccdaaGreatDoorPC
set_option linter.all false
set_option maxRecDepth 100000
set_option maxHeartbeats 40000000
set_option maxHeartbeats 8000000
namespace Go.Proofs.YtndlekaahjccdaaGreatDoor
open Go.RowKit Go.Proofs.Tryz
def kgF:List (Int×Int)->List Bool->List Int->List Bool×List Int
 | [],K,G=>(K,G)
 | p::l,K,G=>if p.1<256 then kgF l (K.set p.1.toNat true) (G.set p.1.toNat p.2)else kgF l K G
def kgM(S:List RP):List Bool×List Int:=kgF (pairsM S) (List.replicate 256 false) (List.replicate 256 0)
def sgS(KG:List Bool×List Int)(b:UInt8):Option (List UInt8):=if KG.1.getD b.toNat false=true then some (encR (KG.2.getD b.toNat 0))else none
theorem zeroK:zeroCells277=(bcellsB (List.replicate 256 false)).toArray:=by kernel_rfl
theorem zeroG:zeroCells292=(icells (List.replicate 256 0)).toArray:=by kernel_rfl
theorem kgF_bd:∀(l:List (Int×Int)) (hP:∀p∈l,0<=p.1/\0<=p.2/\p.2<=1114111) (K:List Bool) (G:List Int) (hG:∀i:Nat,0<=G.getD i 0/\G.getD i 0<=1114111),
 ∀i:Nat,0<=(kgF l K G).2.getD i 0/\(kgF l K G).2.getD i 0<=1114111:=by
 intro l
 induction l with
 | nil=>intro _ K G hG;exact hG
 | cons p l ih=>
  intro hP K G hG;have hp:=hP p (List.mem_cons_self ..);have ih':=ih (fun q hq=>hP q (List.mem_cons_of_mem _ hq));simp only[kgF];split
  . refine ih' _ _ fun i=>?_
    simp only[List.getD,List.getElem?_set];split
    . split
      . simpa using hp.2
      . simp
    . exact hG i
  . exact ih' _ _ hG
theorem yCv(l:List Int)(j:Nat)(b:Int):(icells l).set j (.int .i32 b)=icells (l.set j b):=by simp[icells,List.map_set]
theorem yBC{w:World}{B:Nat}{v:Value}{l:List (Int×Int)}(h:OwnP w B v l)(k:Nat)(p:Int×Int)(hk:l[k]?=some p):
 ∃g cap,v=.slice (some ⟨g,0,none⟩) l.length cap/\B<=g/\w.cell? ⟨g,k*2,none⟩=some (.int .i64 p.1)/\w.cell? ⟨g,k*2+1,none⟩=some (.int .i32 p.2):=by
 have H5:=(List.getElem?_eq_some_iff.1 hk).1;obtain⟨g,cap,rfl,hB⟩:=y1F h (by omega);refine⟨g,cap,rfl,hB,?_,?_⟩
 . rw[World.ownsRow.cellAt h (k*2) (by omega)];exact(y6N l k p hk 0 (by omega))
 . rw[World.ownsRow.cellAt h (k*2+1) (by omega)];exact(y6N l k p hk 1 (by omega))
def DecPost(r:List UInt8×Option Nat)(w:World)(e:Ending)(w':World):Prop:=e=.returned (.tuple #[.string ⟨r.1.toArray⟩,faultV r.2])/\Below w.heap.size w w'
theorem kg_set(wr:World)(a p:Nat)(q:Int)(K:List Bool)(G:List Int)(X:Obj)(T T':TypeId)(hK:wr.heap[a]?=some (.cells (bcellsB K).toArray T (0,0)))(hG:wr.heap[a+1]?=some (.cells (icells G).toArray T' (0,0)))
 (W:World) (hW:W=(((wr.setCell ⟨a,p,none⟩ (.bool true)).setCell ⟨a+1,p,none⟩ (.int .i32 q)).alloc X).drew):
 W.heap[a]?=some (.cells (bcellsB (K.set p true)).toArray T (0,0))/\W.heap[a+1]?=some (.cells (icells (G.set p q)).toArray T' (0,0)) /\
  (∀r,r<wr.heap.size->r≠a->r≠a+1->W.heap[r]?=wr.heap[r]?)/\(∀w5,Below a w5 wr->a<=w5.heap.size->Below a w5 W):=by
 have l1:=(Array.getElem?_eq_some_iff.1 hG).1;have q1:=heap_setCell_same wr a p _ _ (.bool true) hK;have q2:(wr.setCell ⟨a,p,none⟩ (.bool true)).heap[a+1]?=some (.cells (icells G).toArray T' (0,0)):=(Below.heap_setCell _ _ _ _ (by simp)).trans hG;have q3:=heap_setCell_same _ (a+1) p _ _ (.int .i32 q) q2;have q4:=(Below.heap_setCell (wr.setCell ⟨a,p,none⟩ (.bool true)) ⟨a+1,p,none⟩ (.int .i32 q) a (by simp)).trans q1;have hA:=fun r (h:r<wr.heap.size)=>((Below.refl wr.heap.size ((wr.setCell ⟨a,p,none⟩ (.bool true)).setCell ⟨a+1,p,none⟩ (.int .i32 q))).alloc (by simp) X).block r h
 rw[List.setIfInBounds_toArray,yAj]at q4;rw[List.setIfInBounds_toArray,yCv]at q3;subst hW;refine⟨(hA a (by omega)).trans q4,(hA _ l1).trans q3,fun r h h1 h2=>?_,fun w5 hb hl=>?_⟩
 . exact(hA r h).trans ((Below.heap_setCell _ _ _ _ h2).trans (Below.heap_setCell _ _ _ _ h1))
 . have hs:=hb.size
   exact(((hb.setCell (p:=⟨a,p,none⟩) (zA) _).setCell (p:=⟨a+1,p,none⟩) (show a<=a+1 from Nat.le_succ _) _).alloc (by simp;omega) _).drew
theorem y51(v:Value)(S:List RP)(B:Nat)(c:Int)(b:ByteArray)(w:World)(hT:TW w)(hX:Tab w B v S)(hG:∀r∈S,r.Good)(hl:S.length<=1000)(hb:b.size<=1073741824)
 (hP:∀p∈pairsM S,0<=p.1/\0<=p.2/\p.2<=1114111):
 Calls prog 186 #[.agg #[v,.int .i64 c],.string b] w (DecPost (decT (tokS (sgS (kgM S))) (bl b)) w):=by
 obtain⟨a,cp,rfl⟩:=hX.len;have kp:=fun v w h=>yBE v S B w h hG hl
 obtain⟨KG,Hp⟩:∃KG,KG=kgM S:=⟨_,rfl⟩;obtain⟨L,hL⟩:∃L,L=pairsM S:=⟨_,rfl⟩;rw[<-Hp];unfold kgM at Hp;rw[<-hL]at Hp hP;have kT:L.length<=1048576000:=by
  have h1:=y3X S hG;have h2:=y4Q S hG;rw[hL];omega
 have kp2:∀v w,Tab w B v S->Calls prog 277 #[.agg #[v]] w (fun e w'=>∃v',e=.returned v'/\OwnP w' w.heap.size v' L/\Below w.heap.size w w'):=by rw[hL];exact kp
 obtain⟨W,hW⟩:∃W,W=(((w.alloc (.cells #[.slice a S.length cp,.int .i64 c] 230)).alloc (.cells #[.int .i64 0,.int .i64 0] 40)).alloc (.cells zeroCells277 277)).alloc (.cells zeroCells292 292):=⟨_,rfl⟩;have s1:(w.alloc (.cells #[.slice a S.length cp,.int .i64 c] 230)).heap.size=w.heap.size+1:=World.size_alloc _ _;have s2:((w.alloc (.cells #[.slice a S.length cp,.int .i64 c] 230)).alloc (.cells #[.int .i64 0,.int .i64 0] 40)).heap.size=w.heap.size+2:=by rw[World.size_alloc,s1]
 have s3:(((w.alloc (.cells #[.slice a S.length cp,.int .i64 c] 230)).alloc (.cells #[.int .i64 0,.int .i64 0] 40)).alloc (.cells zeroCells277 277)).heap.size=w.heap.size+3:=by rw[World.size_alloc,s2]
 have Hu:Below w.heap.size w W:=by rw[hW];exact bal (bal (bal (bal (z8) _) _) _) _
 have m0:Live W (w.heap.size+1) 0 (.int .i64 0):=by rw[hW,<-s1];exact((Live.fresh _ _ _ 0 _ rfl).alloc _).alloc _
 have m1:Live W (w.heap.size+1) 1 (.int .i64 0):=by rw[hW,<-s1];exact((Live.fresh _ _ _ 1 _ rfl).alloc _).alloc _
 have H7:W.heap[w.heap.size+2]?=some (.cells (bcellsB (List.replicate 256 false)).toArray 277 (0,0)):=by rw[hW,<-zeroK];exact(heap_alloc_old _ _ (by rw[s3];omega)).trans (by rw[<-s2];exact heap_alloc_new _ _)
 have H8:W.heap[w.heap.size+3]?=some (.cells (icells (List.replicate 256 0)).toArray 292 (0,0)):=by rw[hW,<-zeroG,<-s3];exact heap_alloc_new _ _
 have kA:=hX.bel Hu;have kC:=hT.bel Hu;generalize S.length=n at *;have KP:=z7 kp2;have HX:=z7 hX;have kV:=z7 kA;have kJ:=z7 Hp;have HL:=z7 hL;have HW:=z7 hW;have HP:=z7 hP;have kK:=z7 H7;have Hz:=z7 H8;have M0:=z7 m0;have M1:=z7 m1;have kX:=z7 kC;have kM:=z7 Hu;clear kp2 hX kA Hp hL hW hP H7 H8 m0 m1 kC Hu;clear kp s1 s2 s3 hG hl hT;have Hv:Hid ((bl b).length=b.size):=zJ b
 go_enter func186,ntmps186
 go_wp2_with fail
 rw[<-HW.out];refine(KP.out _ _ kV.out).mono ?_;rintro e W5 ⟨v5,rfl,k9,Hb⟩;have H7:=(Hb.block _ (Array.getElem?_eq_some_iff.1 kK.out).1).trans kK.out;have H8:=(Hb.block _ (Array.getElem?_eq_some_iff.1 Hz.out).1).trans Hz.out;have kz:w.heap.size+4<=W.heap.size:=(Array.getElem?_eq_some_iff.1 Hz.out).1;have Ki:w.heap.size+4<=W5.heap.size:=zE kz Hb.size;have Hc:OwnP W5 (w.heap.size+4) v5 L:=zd k9 kz;have n0:=M0.out.keep Hb;have n1:=M1.out.keep Hb;have Hm:=kM.out.trans (Hb.mono kM.out.size);have Hn:=kX.out.bel Hb;obtain⟨av,cv,rfl⟩:=zN Hc;obtain⟨m,hm⟩:∃m,m=L.length:=⟨_,rfl⟩;rw[<-hm]at kT ⊢;have Hr:=z7 H7;have Hy:=z7 H8;have kU:=z7 Hc;have N0:=z7 n0;have N1:=z7 n1;have HQ:=z7 Hm;have kW:=z7 Hn;have HM:=z7 hm;clear H7 H8 Hc n0 n1 Hm Hn hm;clear k9 Hb
 go_wp2_with fail
 go_loopw [16] (fun jv wr=>∃(j:Nat) (K:List Bool) (G:List Int),jv=.int .i64 (j:Int)/\j<=m/\K.length=256/\G.length=256/\Hid (wr.heap[w.heap.size+2]?=some (.cells (bcellsB K).toArray 277 (0,0)))/\Hid (wr.heap[w.heap.size+3]?=some (.cells (icells G).toArray 292 (0,0))) /\
  Hid (KG=kgF (L.drop j) K G)/\Hid (∀q,q<W5.heap.size->q≠w.heap.size+2->q≠w.heap.size+3->wr.heap[q]?=W5.heap[q]?)/\Below (w.heap.size+2) W5 wr) (fun jv _=>m-(intOf jv).toNat)
 case atStart=>exact⟨0,_,_,rfl,zD,by simp,by simp,Hr.out,Hy.out,kJ.out,fun _ _ _ _=>rfl,z8⟩
 case round=>
  obtain⟨j,K,G,rfl,hj,kF,kH,H7,H8,hR,H6,H5⟩:=hrel;by_cases Hi:j<m
  . obtain⟨p,hp⟩:=zM L j (by rw[<-HM.out];exact Hi)
    obtain⟨p0,p1,p2⟩:=HP.out p (List.mem_of_getElem? hp);obtain⟨g,cap,he,Kf,c0,c1⟩:=yBC kU.out j p hp;simp only[Value.slice.injEq]at he;obtain⟨rfl,_,rfl⟩:=he;have e0:wr.heap[g]?=W5.heap[g]?:=H6.out g (zp c0) (by omega) (by omega);have d0:wr.cell? ⟨g,j*2,none⟩=some (.int .i64 p.1):=by unfold World.cell? at *;rw[e0];exact c0
    have d1:wr.cell? ⟨g,j*2+1,none⟩=some (.int .i32 p.2):=by unfold World.cell? at *;rw[e0];exact c1
    have hd:=drop_at L j (List.getElem?_eq_some_iff.1 hp).1;rw[(List.getElem?_eq_some_iff.1 hp).2]at hd;have e1:=hR.out;rw[hd,kgF]at e1;obtain⟨p,q⟩:=p;simp only at p0 p1 p2 d0 d1 e1;obtain⟨p,rfl⟩:=Int.eq_ofNat_of_zero_le p0;clear hd hp c0 c1 e0 hR;by_cases kx:(p:Int)<256
    . rw[if_pos kx,Int.toNat_natCast]at e1
      have He:wr.cell? ⟨w.heap.size+2,p,none⟩=some (.bool (K.getD p false)):=by
       rw[cell_of_row _ _ _ _ _ _ H7.out];have:p<K.length:=by omega
       simp[bcellsB,List.getD,this]
      have Ht:wr.frozen? ⟨w.heap.size+2,p,none⟩=false:=by simp[World.frozen?,H7.out]
      have Hl:wr.cell? ⟨w.heap.size+3,p,none⟩=some (.int .i32 (G.getD p 0)):=by
       rw[cell_of_row _ _ _ _ _ _ H8.out];have:p<G.length:=by omega
       simp[icells,List.getD,this]
      have kR:wr.frozen? ⟨w.heap.size+3,p,none⟩=false:=by simp[World.frozen?,H8.out]
      have E1:=z7 e1;clear e1;have Ke:w.heap.size+2<wr.heap.size:=zp He;have Kd:w.heap.size+3<wr.heap.size:=zp Hl;have f0:=fun X=>kc (bal (z8) X) He
      have f1:=fun X=>kf (bal (z8) X) He Ht
      have f2:=fun X=>kc (bal (z8) X) Hl
      have f3:=fun X=>kf (bal (z8) X) Hl kR
      go_wp2_with fail
      go_region
      obtain⟨r1,r2,r3,r4⟩:=kg_set wr (w.heap.size+2) p q K G (.cells #[.int .i64 p,.int .i32 q] 296) _ _ H7.out H8.out _ rfl;have Hj:=fun q (hq:q<W5.heap.size) h1 h2=>(r3 q (Nat.lt_of_lt_of_le hq H5.size) h1 h2).trans (H6.out q hq h1 h2)
      have Hf:=r4 W5 H5 (by omega);have R1:=z7 r1;have R2:=z7 r2;have Hw:=z7 Hj;have Ka:=z7 Hf;clear r1 r2 Hj Hf;clear r3 r4
      go_wp2_with fail
      go_roundw
      case rel=>exact⟨j+1,K.set p true,G.set p q,by go_num,by omega,by simp[kF],by simp[kH],R1,R2,E1,Hw,Ka.out⟩
      case measure=>simp[intOf];omega
    . rw[if_neg kx]at e1
      have E1:=z7 e1;clear e1
      go_wp2_with fail
      have Hf:Below (w.heap.size+2) W5 (wr.alloc (.cells #[.int .i64 p,.int .i32 q] 296)):=H5.alloc (zE (by omega) H5.size) _;have hA:Below wr.heap.size wr (wr.alloc (.cells #[.int .i64 p,.int .i32 q] 296)):=bal (z8) _;have Ho:=(hA.block _ (Array.getElem?_eq_some_iff.1 H7.out).1).trans H7.out;have Hq:=(hA.block _ (Array.getElem?_eq_some_iff.1 H8.out).1).trans H8.out;have Hj:=fun q (hq:q<W5.heap.size) h1 h2=>(hA.block q (Nat.lt_of_lt_of_le hq H5.size)).trans (H6.out q hq h1 h2)
      have kY:=z7 Ho;have K9:=z7 Hq;have Hw:=z7 Hj;clear Ho Hq Hj;go_roundw
      case rel=>exact⟨j+1,K,G,by go_num,by omega,kF,kH,kY.out,K9.out,E1.out,Hw.out,Hf⟩
      case measure=>simp[intOf];omega
  . have kQ:j=m:=by omega
    subst kQ;have e1:=hR.out;rw[List.drop_of_length_le (by rw[HM.out];exact zA),kgF]at e1;subst e1;have kP:=Hr.out;have n0':=N0.out;have n1':=N1.out;have l1:=N0.out.lt;have Kc:=H5.size;have f1:=H6.out (w.heap.size+1) l1 (by omega) (by omega);have m0:Live wr (w.heap.size+1) 0 (.int .i64 0):=by unfold Live World.cell? World.frozen? at *;rw[f1];exact n0'
    have m1:Live wr (w.heap.size+1) 1 (.int .i64 0):=by unfold Live World.cell? World.frozen? at *;rw[f1];exact n1'
    have ky:Below w.heap.size w wr:=HQ.out.trans (H5.mono (by omega));obtain⟨R,hR⟩:∃R,R=decT (tokS (sgS (K,G))) (bl b):=⟨_,rfl⟩;rw[<-hR];clear kP n0' n1' f1;have Hk:∀i:Nat,0<=G.getD i 0/\G.getD i 0<=1114111:=by
     have:=kgF_bd L HP.out (List.replicate 256 false) (List.replicate 256 0) (by
      intro i;simp only[List.getD,List.getElem?_replicate];split<;>simp)
     rw[<-kJ.out]at this;exact this
    have kZ:=z7 Hk;clear Hk;have M0':=z7 m0;have M1':=z7 m1;have Ha:=z7 ky;have HR:=z7 hR;clear m0 m1 ky hR;clear Hi hj hR;have kD:=H7.out;have kI:=H8.out;have KB:=z7 kD;have GB:=z7 kI;clear kD kI;clear H7 H8
    rename World=>W6
    go_wp2_with fail
    go_loopw [10,11] (fun v at_ wr=>∃(f k:Nat) (acc:List UInt8),at_=.int .i64 (k:Int)/\Own wr W6.heap.size v acc/\k<=b.size/\acc.length<=4*k/\b.size-k<=f/\Hid (runT (tokS (sgS (K,G))) f ((bl b).drop k) k acc=R)/\Below W6.heap.size W6 wr) (fun _ at_ _=>b.size-(intOf at_).toNat)
    case atStart=>exact⟨b.size,0,[],rfl,Own.nil _ _,zD,by simp,by omega,by have:=HR.out;unfold decT at this;rw[Hv.out]at this;rw[List.drop_zero];exact this.symm,z8⟩
    case round=>
     obtain⟨f,k,acc,rfl,Hh,hk,ha,hf,hR,H9⟩:=hrel;by_cases Hi:k<b.size
     . obtain⟨f,rfl⟩:∃g,f=g+1:=⟨f-1,by omega⟩
       have Hs:(bl b).drop k ≠ []:=y27 (by rw[Hv.out];exact Hi);obtain⟨x,hx⟩:=zM (bl b) k (by rw[Hv.out];exact Hi);have X:∀h,b[k]'h=x:=zS b k x hx;have Kb:=x.toNat_lt;have ht:tokS (sgS (K,G)) ((bl b).drop k)=(sgS (K,G) x).map fun t=>(t,1):=by
        rw[drop_at (bl b) k (List.getElem?_eq_some_iff.1 hx).1,(List.getElem?_eq_some_iff.1 hx).2];rfl
       have He:wr.cell? ⟨w.heap.size+2,x.toNat,none⟩=some (.bool (K.getD x.toNat false)):=by
        refine kc H9 ?_;rw[cell_of_row _ _ _ _ _ _ KB.out];have:x.toNat<K.length:=by omega
        simp[bcellsB,List.getD,this]
       have Hl:wr.cell? ⟨w.heap.size+3,x.toNat,none⟩=some (.int .i32 (G.getD x.toNat 0)):=by
        refine kc H9 ?_;rw[cell_of_row _ _ _ _ _ _ GB.out];have:x.toNat<G.length:=by omega
        simp[icells,List.getD,this]
       by_cases Hd:K.getD x.toNat false=true
       . have hs:sgS (K,G) x=some (encR (G.getD x.toNat 0)):=if_pos Hd
         rw[hs]at ht;have e1:=y05 (tok:=tokS (sgS (K,G))) f _ k acc _ _ Hs ht;rw[hR.out,List.drop_drop]at e1;have Hk:=kZ.out x.toNat;obtain⟨g,hg⟩:∃g,g=G.getD x.toNat 0:=⟨_,rfl⟩;rw[Hd]at He;rw[<-hg]at Hl e1 Hk;obtain⟨g0,g1⟩:=Hk;have Kg:=y1e g;have E1:=z7 e1;clear e1;clear hs ht Hs Hd hx hg
         go_wp2_with (go_at_call 205;refine(y0V W6.heap.size _ acc g _ (by omega) (by omega) Hh (by omega) H9.size).mono ?_;rintro e w2 ⟨v',rfl,Hg,Hf⟩)
         exact⟨⟨f,k+1,acc++encR g,by go_num,Hg,by omega,by rw[zH];omega,by omega,z7 E1.out.symm,H9.trans Hf⟩,by simp[intOf];omega⟩
       . have Ht:K.getD x.toNat false=false:=by simpa using Hd
         have hs:sgS (K,G) x=none:=if_neg Hd;rw[hs]at ht;have e1:=y0o (tok:=tokS (sgS (K,G))) f _ k acc Hs ht;rw[hR.out]at e1;rw[Ht]at He;have y0:=M0'.out.keep H9;have y1:=M1'.out.keep H9;obtain⟨a1,a2⟩:=y0;obtain⟨a3,a4⟩:=y1;have E1:=z7 e1;clear e1;clear hs ht Hs Hd Ht hx
         go_wp2_with fail
         refine bodyPost_ret (v:=.tuple #[.string ⟨#[]⟩,.agg #[.int .i64 2,.int .i64 k]]) (by simp[results,results186,go_sem,a1,a2,a3,a4]) rfl ?_;refine(show DecPost _ _ _ _ from⟨?_,?_⟩)
         . rw[<-HR.out,E1.out];rfl
         . exact((Ha.out.trans (H9.mono Ha.out.size)).setCell (show w.heap.size<=_ from Nat.le_succ _) _).setCell (show w.heap.size<=_ from Nat.le_succ _) _
     . have kO:k=b.size:=by omega
       subst kO;have e1:runT (tokS (sgS (K,G))) f ((bl b).drop b.size) b.size acc=(acc,none):=by
        rw[List.drop_of_length_le (by rw[Hv.out];exact zA)];exact y39 f _ acc
       rw[hR.out]at e1;have E1:=z7 e1;obtain⟨a1,a2⟩:=M0'.out.keep H9;obtain⟨a3,a4⟩:=M1'.out.keep H9;have Kh:=y16 Hh;clear e1
       go_wp2_with fail
       refine bodyPost_ret (v:=.tuple #[.string ⟨acc.toArray⟩,.agg #[.int .i64 0,.int .i64 0]]) (by simp[results,results186,go_sem,a1,a2,a3,a4]) rfl ?_;refine(show DecPost _ _ _ _ from⟨?_,?_⟩)
       . rw[<-HR.out,E1.out];rfl
       . exact((Ha.out.trans (H9.mono Ha.out.size)).setCell (show w.heap.size<=_ from Nat.le_succ _) _).setCell (show w.heap.size<=_ from Nat.le_succ _) _
def lsK(L:List (Int×Int))(p:Int):Option Int:=(L.find? fun q=>decide (q.2=p)&&decide (q.1<256)).map (·.1)
theorem yJh(L:List (Int×Int))(q:Int×Int)(h:(∃c,lsK L q.2=some c)\/¬q.1<256)(p:Int):lsK (L ++ [q]) p=lsK L p:=by
 unfold lsK at *;rw[List.find?_append];cases hf:L.find? (fun r=>decide (r.2=p)&&decide (r.1<256))with
 | some r=>simp
 | none=>
  have:(decide (q.2=p)&&decide (q.1<256))=false:=by
   rcases h with⟨c,hc⟩|h
   . by_cases e:q.2=p
     . rw[e,hf]at hc;simp at hc
     . simp[e]
   . simp[h]
  simp[List.find?_cons,this]
theorem yJi(L:List (Int×Int))(q:Int×Int)(h:lsK L q.2=none)(h2:q.1<256)(p:Int):lsK (L ++ [q]) p=if p=q.2 then some q.1 else lsK L p:=by
 unfold lsK at *;rw[List.find?_append];split
 . rename_i e
   subst e;cases hf:L.find? (fun r=>decide (r.2=q.2)&&decide (r.1<256))with
   | some r=>rw[hf]at h;simp at h
   | none=>simp[List.find?_cons,h2]
 . rename_i e
   have:decide (q.2=p)=false:=by simp;exact fun h=>e h.symm
   cases hf:L.find? (fun r=>decide (r.2=p)&&decide (r.1<256))with
   | some r=>simp
   | none=>simp[List.find?_cons,this]
theorem lsK_bd(L:List (Int×Int))(hL:∀q∈L,0<=q.1)(p c:Int)(h:lsK L p=some c):0<=c/\c<256:=by
 unfold lsK at h;simp only[Option.map_eq_some_iff]at h;obtain⟨q,hq,rfl⟩:=h;have:=List.find?_some hq;simp at this;exact⟨hL q (List.mem_of_find?_eq_some hq),this.2⟩
def MapR(L:List (Int×Int)):Value->Value->Prop:=fun u v=>∃p c,u=.int .i32 p/\v=.int .i64 c/\lsK L p=some c
theorem yBW(L:List (Int×Int))(q:Int×Int)(h:(∃c,lsK L q.2=some c)\/¬q.1<256)(u v:Value):MapR L u v↔MapR (L ++ [q]) u v:=by
 unfold MapR;simp only[yJh L q h]
theorem yHj(L:List (Int×Int))(q:Int×Int)(h:lsK L q.2=none)(h2:q.1<256)(u v:Value):
 ((u=.int .i32 q.2/\v=.int .i64 q.1)\/(u≠.int .i32 q.2/\MapR L u v))↔MapR (L ++ [q]) u v:=by
 unfold MapR;simp only[yJi L q h h2];constructor
 . rintro(⟨rfl,rfl⟩|⟨hu,p,c,rfl,rfl,hc⟩)
   . exact⟨_,_,rfl,rfl,by rw[if_pos rfl]⟩
   . exact⟨p,c,rfl,rfl,by rw[if_neg (fun e=>hu (by rw[e]))];exact hc⟩
 . rintro⟨p,c,rfl,rfl,hc⟩
   split at hc
   . rename_i e
     subst e;simp only[Option.some.injEq]at hc;exact .inl ⟨rfl,by rw[hc]⟩
   . rename_i e
     exact .inr ⟨by simp[e],p,c,rfl,rfl,hc⟩
theorem y3E:Maps.Keyed prog 21:=Maps.int_keyed underlying21
theorem keyR(p:Int)(h0:0<=p)(h1:p<=1114111):keyOf prog 21 (.int .i32 p)=some (.int .i32 p):=
 Maps.keyOf_int_mk underlying21 (by have e1:IntKind.i32.min = -2147483648:=rfl;have e2:IntKind.i32.max=2147483647:=rfl;simp[Lit.wf];omega)
theorem y1S{P:Program}{ops:Array Oper}{rest:List Oper}{o:Oper}{a:Act}{Q:Exit->Act->World->Prop}(hg:o.guard=none)(t:TypeId)(H5:o.op=Op.makeMap t none)(w:World)
 (h:wpList P ops Q rest (a.put o.dst (.map (some w.heap.size))) (w.alloc (.map #[] 0))):wpList P ops Q (o::rest) a w:=by
 refine wpList_plain hg fun K' H6=>?_
 unfold Oper.wp;have e1:(Instr.makeMap t none).run P w=.ok (.map (some w.heap.size)) (w.alloc (.map #[] 0)):=rfl;simp[execOp,H5,e1,Result.andThen];exact H6 _ _ h
section
variable {ops:Array Oper} {rest:List Oper} {o:Oper} {a:Act} {Q:Exit->Act->World->Prop}
theorem y1s(w:World)(hg:o.guard=none)(m x:Operand)(H6:o.op=Op.lookup 248 m x true)(b:Nat)(L:List (Int×Int))(p c:Int)(hm:a.eval m=.map (some b))
 (hS:MapS prog 21 w b (MapR L)) (hx:a.eval x=.int .i32 p) (h0:0<=p) (h1:p<=1114111) (hc:Hid (lsK L p=some c))
 (h:wpList prog ops Q rest (a.put o.dst (.tuple #[.int .i64 c,.bool true])) w):wpList prog ops Q (o::rest) a w:=by
 refine y11 w hg m x _ H6 21 3 y3E underlying248 (.int .i64 0) ?_ b (MapR L) hm hS _ _ hx (keyR p h0 h1) (fun hn=>absurd ⟨p,c,rfl,rfl,hc.out⟩ (hn _)) ?_
 . simp[zeroValue,underlying3,go_sem];rfl
 . rintro v ⟨p',c',e,rfl,H5⟩
   simp only[Value.int.injEq,true_and]at e;subst e;rw[hc.out]at H5;simp only[Option.some.injEq]at H5;subst H5;exact h
theorem y0l(w:World)(hg:o.guard=none)(m x:Operand)(H6:o.op=Op.lookup 248 m x true)(b:Nat)(L:List (Int×Int))(p:Int)(hm:a.eval m=.map (some b))
 (hS:MapS prog 21 w b (MapR L)) (hx:a.eval x=.int .i32 p) (h0:0<=p) (h1:p<=1114111) (hc:Hid (lsK L p=none))
 (h:wpList prog ops Q rest (a.put o.dst (.tuple #[.int .i64 0,.bool false])) w):wpList prog ops Q (o::rest) a w:=by
 refine y11 w hg m x _ H6 21 3 y3E underlying248 (.int .i64 0) ?_ b (MapR L) hm hS _ _ hx (keyR p h0 h1) (fun _=>h) ?_
 . simp[zeroValue,underlying3,go_sem];rfl
 . rintro v ⟨p',c',e,rfl,H5⟩
   simp only[Value.int.injEq,true_and]at e;subst e;rw[hc.out]at H5;cases H5
end
def tokE(ls:Int->Option Int):Tok:=fun l=>(ls (dec l).1).map fun c=>([UInt8.ofNat c.toNat],(dec l).2)
def faultE:Option Nat->Value
 | none=>.agg #[.int .i64 0,.int .i64 0]
 | some k=>.agg #[.int .i64 6,.int .i64 k]
def encV(ls:Int->Option Int)(l:List UInt8):Value:=match(scanL l).2 with
 | some k=>.tuple #[.string ⟨#[]⟩,faultV (some k)]
 | none=>.tuple #[.string ⟨(decT (tokE ls) l).1.toArray⟩,faultE (decT (tokE ls) l).2]
def EncPost(r:Value)(w:World)(e:Ending)(w':World):Prop:=e=.returned r/\Below w.heap.size w w'
theorem y9a(v:Value)(S:List RP)(B:Nat)(c:Int)(b:ByteArray)(w:World)(hT:TW w)(hX:Tab w B v S)(hG:∀r∈S,r.Good)(hl:S.length<=1000)(hb:b.size<=1073741824)
 (hP:∀p∈pairsM S,0<=p.1/\0<=p.2/\p.2<=1114111):
 Calls prog 297 #[.agg #[v,.int .i64 c],.string b] w (EncPost (encV (lsK (pairsM S)) (bl b)) w):=by
 obtain⟨a,cp,rfl⟩:=hX.len;have kp:=fun v w h=>yBE v S B w h hG hl
 obtain⟨L,hL⟩:∃L,L=pairsM S:=⟨_,rfl⟩;rw[<-hL]at hP ⊢;have gK:L.length<=1048576000:=by
  have h1:=y3X S hG;have h2:=y4Q S hG;rw[hL];omega
 have kp2:∀v w,Tab w B v S->Calls prog 277 #[.agg #[v]] w (fun e w'=>∃v',e=.returned v'/\OwnP w' w.heap.size v' L/\Below w.heap.size w w'):=by rw[hL];exact kp
 have k1:=fun w hT=>y98 b w hT (by omega)
 have k2:=fun a b w=>y0a a b w
 obtain⟨R,hR⟩:∃R,R=encV (lsK L) (bl b):=⟨_,rfl⟩;rw[<-hR];obtain⟨W,hW⟩:∃W,W=(w.alloc (.cells #[.slice a S.length cp,.int .i64 c] 230)).alloc (.cells #[.int .i64 0,.int .i64 0] 40):=⟨_,rfl⟩;have s1:(w.alloc (.cells #[.slice a S.length cp,.int .i64 c] 230)).heap.size=w.heap.size+1:=World.size_alloc _ _;have Gb:W.heap.size=w.heap.size+2:=by rw[hW,World.size_alloc,s1]
 have kX:Below w.heap.size w W:=by rw[hW];exact bal (bal (z8) _) _
 have m0:Live W (w.heap.size+1) 0 (.int .i64 0):=by rw[hW,<-s1];exact Live.fresh _ _ _ 0 _ rfl
 have m1:Live W (w.heap.size+1) 1 (.int .i64 0):=by rw[hW,<-s1];exact Live.fresh _ _ _ 1 _ rfl
 have n0:Live W w.heap.size 0 (.slice a S.length cp):=by rw[hW];exact(Live.fresh _ _ _ 0 _ rfl).alloc _
 have KZ:=hX.bel kX;have gd:=hT.bel kX;generalize S.length=n at *;rcases kT:scanL (bl b)with⟨num,o⟩
 rw[kT]at k1;simp only at k1;have k3:=fun w hT=>y94 b w hT (by omega)
 rw[kT]at k3;simp only at k3;have gQ:=z7 hT;have K3:=z7 k3;have K2P:=z7 kp2;have K1:=z7 k1;have K2:=z7 k2;have HX:=z7 hX;have gN:=z7 KZ;have HR:=z7 hR;have HL:=z7 hL;have HW:=z7 hW;have HP:=z7 hP;have M0:=z7 m0;have M1:=z7 m1;have N0:=z7 n0;have Kl:=z7 gd;have kY:=z7 kX;have Km:=z7 kT;clear hT k3 kp2 k1 k2 hX KZ hR hL hW hP m0 m1 n0 gd kX kT;clear kp s1 hG hl;have kO:Hid ((bl b).length=b.size):=zJ b;cases o with
 | some k=>
  simp only[faultV]at K1
  go_enter func297,ntmps297
  go_wp2_with fail
  rw[<-HW.out];refine(K1.out _ Kl.out).mono ?_;rintro e w1 ⟨rfl,Ha⟩
  go_wp2_with (go_at_call 11;refine(K2.out _ _ _).mono ?_;rintro e w2 ⟨rfl,H6⟩)
  have q0:=(Live.fresh w1 #[.int .i64 2,.int .i64 k] 40 0 _ rfl).keep H6;have q1:=(Live.fresh w1 #[.int .i64 2,.int .i64 k] 40 1 _ rfl).keep H6;have p0:=((M0.out.keep Ha).alloc (.cells #[.int .i64 2,.int .i64 k] 40)).keep H6;have p1:=((M1.out.keep Ha).alloc (.cells #[.int .i64 2,.int .i64 k] 40)).keep H6;have G7:w.heap.size+1<w2.heap.size:=p0.lt;have KX:Below w.heap.size w w2:=kY.out.trans ((bt (bal (bt (z8) Ha) _) H6).mono kY.out.size);clear Ha H6;have g0:=fun x:Grown w2=>x.cell q0.1
  have g1:=fun x:Grown w2=>x.cell q1.1
  refine y02 2 (by kernel_rfl) (by kernel_rfl) ?_;simp only[List.take_succ_cons,List.take_zero,List.drop_succ_cons,List.drop_zero]
  repeat (first|go_big_quiet_step (fail)|quiet_step (fail))
  refine wpQuiet_nil ?_;intro _ gu;obtain⟨xg,rfl⟩:=gu;obtain⟨a1,a2⟩:=p0.keep xg.bel;obtain⟨a3,a4⟩:=p1.keep xg.bel;have Hv:=KX.trans (xg.bel.mono KX.size);clear g0 g1;generalize xg.wd=W at *
  go_wp2_with fail
  refine bodyPost_ret (v:=.tuple #[.string ⟨#[]⟩,.agg #[.int .i64 2,.int .i64 k]]) (by simp[results,results297,go_sem,a1,a2,a3,a4]) rfl ?_;refine(show EncPost _ _ _ _ from⟨?_,?_⟩)
  . rw[HR.out,encV,Km.out];rfl
  . exact(Hv.setCell (show w.heap.size<=_ from Nat.le_succ _) _).setCell (show w.heap.size<=_ from Nat.le_succ _) _
 | none=>
  simp only[faultV]at K1
  go_enter func297,ntmps297
  go_wp2_with fail
  rw[<-HW.out];refine(K1.out _ Kl.out).mono ?_;rintro e w1 ⟨rfl,Ha⟩;have n0':=(((N0.out.keep Ha).alloc (.cells #[.int .i64 0,.int .i64 0] 40))).1;have N0':=z7 n0';clear n0';have gY:W.heap.size<=w1.heap.size:=Ha.size;have k9:Below w.heap.size w w1:=kY.out.trans (Ha.mono kY.out.size);have ky:=gN.out.bel Ha;have kC:=Kl.out.bel Ha;have p0:=M0.out.keep Ha;have p1:=M1.out.keep Ha;have kR:=z7 k9;have Kj:=z7 ky;have Kk:=z7 kC;have P0:=z7 p0;have P1:=z7 p1;clear k9 ky kC p0 p1;clear Ha
  go_wp2_with (first
   | (go_at_call 11;refine(K2.out _ _ _).mono ?_;rintro e w2 ⟨rfl,H6⟩
      have n0'':=fun O=>kc (bal (z8) O) (kc H6 N0'.out))
   | (refine y1S rfl _ rfl _ ?_))
  have H9:Below w1.heap.size w1 w2:=bt (bal (z8) _) H6;have gX:w1.heap.size<w2.heap.size:=by have:=H6.size;rw[World.size_alloc]at this;omega
  have HQ:Below w.heap.size w w2:=kR.out.trans (H9.mono kR.out.size);have kx:=(Kj.out.bel H9).bel (bal (z8) (.map #[] 0));have kA:=(Kk.out.bel H9).bel (bal (z8) (.map #[] 0));have p0:=P0.out.keep H9;have p1:=P1.out.keep H9;refine(K2P.out _ _ kx).mono ?_;rintro e W5 ⟨v5,rfl,Kt,Hy⟩;have gi:MapS prog 21 W5 w2.heap.size (MapR (L.take 0)):=((MapS.made w2 prog 21).congr (by intro u v;simp[MapR,lsK])).bel Hy;have Gc:w2.heap.size+1<=W5.heap.size:=by have:=Hy.size;rw[World.size_alloc]at this;exact this
  have Hk:OwnP W5 (w2.heap.size+1) v5 L:=zd Kt (by rw[World.size_alloc];exact zA);have Hz:Below w2.heap.size w2 W5:=bt (bal (z8) _) Hy;have kz:=kA.bel Hy;obtain⟨av,cv,rfl⟩:=zN Hk;obtain⟨m,hm⟩:∃m,m=L.length:=⟨_,rfl⟩;rw[<-hm]at gK ⊢;have kQ:=z7 HQ;have P0':=z7 p0;have P1':=z7 p1;have gT:=z7 gi;have gM:=z7 Hk;have Hm:=z7 Hz;have gO:=z7 kz;have HM:=z7 hm;clear HQ p0 p1 gi Hk Hz kz hm;clear Kt Hy kx kA H9 H6 n0''
  go_wp2_with fail
  go_loopw [27] (fun jv wr=>∃(j:Nat),jv=.int .i64 (j:Int)/\j<=m/\Hid (MapS prog 21 wr w2.heap.size (MapR (L.take j))) /\
   Hid (∀q,q<W5.heap.size->q≠w2.heap.size->wr.heap[q]?=W5.heap[q]?)/\Below w2.heap.size W5 wr) (fun jv _=>m-(intOf jv).toNat)
  case atStart=>exact⟨0,rfl,zD,gT,z7 fun _ _ _=>rfl,z8⟩
  case round=>
   obtain⟨j,rfl,hj,Hq,H7,H5⟩:=hrel;by_cases Hp:j<m
   . obtain⟨p,hp⟩:=zM L j (by rw[<-HM.out];exact Hp)
     obtain⟨p0,p1,p2⟩:=HP.out p (List.mem_of_getElem? hp);obtain⟨g,cap,he,G9,c0,c1⟩:=yBC gM.out j p hp;simp only[Value.slice.injEq]at he;obtain⟨rfl,_,rfl⟩:=he;have e0:wr.heap[g]?=W5.heap[g]?:=H7.out g (zp c0) (by omega);have d0:wr.cell? ⟨g,j*2,none⟩=some (.int .i64 p.1):=by unfold World.cell? at *;rw[e0];exact c0
     have d1:wr.cell? ⟨g,j*2+1,none⟩=some (.int .i32 p.2):=by unfold World.cell? at *;rw[e0];exact c1
     have Hn:L.take (j+1)=L.take j ++ [p]:=by rw[List.take_add_one,hp];rfl
     have hA:=bal (Below.refl wr.heap.size wr) (.cells #[.int .i64 p.1,.int .i32 p.2] 296);have He:=Hq.out.bel hA;have Hg:=fun q (hq:q<W5.heap.size) h1=>(hA.block q (Nat.lt_of_lt_of_le hq H5.size)).trans (H7.out q hq h1)
     have H6:=H5.alloc (zE (by omega) H5.size) (.cells #[.int .i64 p.1,.int .i32 p.2] 296);cases hc:lsK (L.take j) p.2 with
     | some c0'=>
      have Hf:=He.congr (yBW _ p (.inl ⟨_,hc⟩));rw[<-Hn]at Hf;obtain⟨p,q⟩:=p;simp only at p0 p1 p2 d0 d1 hc He Hg H6 Hf;have HC:=z7 hc;have Hr:=z7 He;have kJ:=z7 Hg;have kP:=z7 H6;have Kq:=z7 Hf;clear hc He Hg H6 Hf;clear hp c0 c1 e0 Hn hA
      go_wp2_with (at_lookup;refine y1s _ rfl _ _ rfl w2.heap.size (L.take j) q c0' rfl Hr.out rfl p1 p2 HC ?_)
      go_roundw
      case rel=>exact⟨j+1,by go_num,by omega,Kq,kJ,kP.out⟩
      case measure=>simp[intOf];omega
     | none=>
      by_cases kU:p.1<256
      . have kW:=fun(X:World) (h:MapS prog 21 X w2.heap.size (fun u v=>(u=.int .i32 p.2/\v=.int .i64 p.1)\/(u≠.int .i32 p.2/\MapR (L.take j) u v)))=>(h.congr (yHj (L.take j) p hc kU))
        rw[<-Hn]at kW;obtain⟨p,q⟩:=p;simp only at p0 p1 p2 d0 d1 hc He Hg H6 kW kU;have Gd:W5.heap.size<=wr.heap.size:=H5.size;have HC:=z7 hc;have Hr:=z7 He;have kJ:=z7 Hg;have kP:=z7 H6;have gW:=z7 kW;clear hc He Hg H6 kW;clear hp c0 c1 e0 Hn hA
        go_wp2_with (first
         | (at_lookup;refine y0l _ rfl _ _ rfl w2.heap.size (L.take j) q rfl Hr.out rfl p1 p2 HC ?_)
         | (at_mapUpdate;(refine y1Q _ rfl _ _ _ 248 rfl 21 3 y3E underlying248 w2.heap.size (MapR (L.take j)) rfl Hr.out (.int .i32 q) (.int .i64 p) (.int .i32 q) rfl rfl (keyR q p1 p2) ?_;intro w6 gJ Kw)))
        have Hf:=z7 (gW.out _ gJ);have gG:Below w2.heap.size W5 w6:=kP.out.grown Kw (by rw[World.size_alloc];omega) (by intro k hk;cases hk;exact zA);have Kv:=fun r (hr:r<W5.heap.size) h1=>(Kw.block r (by rw[World.size_alloc];omega) (fun e=>h1 (zF e))).trans (kJ.out r hr h1)
        have gU:=z7 Kv;clear Kv;go_roundw
        case rel=>exact⟨j+1,by go_num,by omega,Hf,gU,gG⟩
        case measure=>simp[intOf];omega
      . have Hf:=He.congr (yBW _ p (.inr kU))
        rw[<-Hn]at Hf;obtain⟨p,q⟩:=p;simp only at p0 p1 p2 d0 d1 hc He Hg H6 Hf kU;have HC:=z7 hc;have Hr:=z7 He;have kJ:=z7 Hg;have kP:=z7 H6;have Kq:=z7 Hf;clear hc He Hg H6 Hf;clear hp c0 c1 e0 Hn hA
        go_wp2_with (at_lookup;refine y0l _ rfl _ _ rfl w2.heap.size (L.take j) q rfl Hr.out rfl p1 p2 HC ?_)
        go_roundw
        case rel=>exact⟨j+1,by go_num,by omega,Kq,kJ,kP.out⟩
        case measure=>simp[intOf];omega
   . have gF:j=m:=by omega
     subst gF
     rename World=>W6
     have Hq:=Hq.out;rw[HM.out,List.take_length]at Hq;have l1:=P0'.out.lt;have kZ:=P0'.out.keep Hm.out;have Ku:=P1'.out.keep Hm.out;have f1:=H7.out (w.heap.size+1) kZ.lt (by omega);have r0:Live W6 (w.heap.size+1) 0 (.int .i64 0):=by unfold Live World.cell? World.frozen? at *;rw[f1];exact kZ
     have r1:Live W6 (w.heap.size+1) 1 (.int .i64 0):=by unfold Live World.cell? World.frozen? at *;rw[f1];exact Ku
     have Hl:Below w.heap.size w W6:=kQ.out.trans ((Hm.out.trans H5).mono kQ.out.size);have gf:=gQ.out.bel Hl;have R0:=z7 r0;have R1:=z7 r1;have kK:=z7 Hl;have gP:=z7 gf;have gm:=z7 Hq;clear r0 r1 Hl gf Hq;clear kZ Ku f1 Hp hj H7;have hn:num<=b.size:=by
      have:=yB4 (bl b).length (bl b) 0 0;have e:=Km.out;unfold scanL at e;rw[e,kO.out]at this;simpa using this
     obtain⟨i0,hi,gt,gr,gp⟩:=info_parts infoByte
     go_wp2_with (first
      | (go_at_call 341;refine(K3.out _ gP.out).mono ?_;rintro e w7 ⟨rfl,Kf⟩)
      | (refine wpList_make_own _ rfl _ _ 94 rfl _ 5 i0 (.int .u8 0) 1 underlying94 hi gt gr .i64 .i64 (num:Int) num rfl rfl rfl (by rw[gp];omega) (by unfold maxLen;omega) (zA) ?_;intro W8 H8 Hj))
     have Hc:Below w7.heap.size w7 W8:=(z8).grown Hj (zA) (by intro k hk;cases hk);have gB:W6.heap.size<=w7.heap.size:=Kf.size;have gC:w2.heap.size<W6.heap.size:=gm.out.lt;have Kb:w7.heap.size<=W8.heap.size:=Hc.size;have Hd:Below W6.heap.size W6 (W8.iter b 0):=(bt Kf Hc).alloc (by omega) _;have Hi:Own (W8.iter b 0) w7.heap.size (.slice (some ⟨w7.heap.size,0,none⟩) 0 num) []:=Own.bel H8 ((z8).alloc (zA) _);have Ki:=ItS.made W8 b;have r0:=R0.out.keep Hd;have r1:=R1.out.keep Hd;have kH:=gm.out.bel Hd;have Hw:Below w.heap.size w (W8.iter b 0):=kK.out.trans (Hd.mono kK.out.size);have G8:W8.heap.size<(W8.iter b 0).heap.size:=Ki.lt;have Kg:R=.tuple #[.string ⟨(decT (tokE (lsK L)) (bl b)).1.toArray⟩,faultE (decT (tokE (lsK L)) (bl b)).2]:=by rw[HR.out,encV,Km.out]
     obtain⟨D,hD⟩:∃D,D=decT (tokE (lsK L)) (bl b):=⟨_,rfl⟩;rw[<-hD]at Kg;have gL:Hid (∀p c,lsK L p=some c->0<=c/\c<256):=z7 (lsK_bd L fun q hq=>(HP.out q hq).1);generalize W8.iter b 0=W0 at *;generalize W8.heap.size=r at *;have R0':=z7 r0;have R1':=z7 r1;have Ko:=z7 kH;have kM:=z7 Hw;have gl:=z7 Kg;have HD:=z7 hD;clear r0 r1 kH Hw Kg hD;clear Hj Hc Hd Kf H8
     go_loopw [12] (fun v wr=>∃(f k:Nat) (acc:List UInt8),Own wr w7.heap.size v acc/\ItS wr r b k/\k<=b.size/\acc.length<=k/\b.size-k<=f/\Hid (runT (tokE (lsK L)) f ((bl b).drop k) k acc=D)/\Below w7.heap.size W0 wr) (fun _ wr=>b.size-wr.iterPos r)
     case atStart=>exact⟨b.size,0,[],Hi,Ki,zD,zA,by omega,by have:=HD.out;unfold decT at this;rw[kO.out]at this;rw[List.drop_zero];exact z7 this.symm,z8⟩
     case round=>
      obtain⟨f,k,acc,H8,hI,hk,gI,hf,kD,H5⟩:=hrel;have Ka:=hI.ne H8;have Hs:=hI.pos;have Hh:∀w':World,(∀j,j≠r->w'.heap[j]?=wr.heap[j]?)->w'.ownsRow w7.heap.size 5 1 _ acc.length (bcells acc):=fun w' h=>za H8 (fun q hq=>h q (fun e=>Ka (by rw[hq,e])))
      have kF:MapS prog 21 wr w2.heap.size (MapR L):=Ko.out.blk (H5.block _ (by omega));have gZ:=H5.size;have Kn:=z7 Hs;have gS:=z7 Ka;have gR:=z7 Hh;clear Hs Ka Hh;clear Ki Hi;by_cases Hp:k<b.size
      . obtain⟨f,rfl⟩:∃g,f=g+1:=⟨f-1,by omega⟩
        rcases hd:dec ((bl b).drop k)with⟨p,j⟩
        have Ky:=y0A ((bl b).drop k);have Kx:=y3M ((bl b).drop k);have Hb:(bl b).drop k ≠ []:=y27 (by rw[kO.out];exact Hp);have Kc:=y3N _ Hb;have ht:tokE (lsK L) ((bl b).drop k)=(lsK L ((dec ((bl b).drop k)).1:Nat)).map fun c=>([UInt8.ofNat c.toNat],(dec ((bl b).drop k)).2):=rfl
        rw[List.length_drop,kO.out]at Kc;rw[hd]at Ky Kx Kc ht;simp only at Ky Kx Kc ht;cases hc:lsK L (p:Nat)with
        | none=>
         rw[hc]at ht;have e1:=y0o (tok:=tokE (lsK L)) f _ k acc Hb ht;rw[kD.out]at e1;have kI:∀w':World,(∀j,j≠r->w'.heap[j]?=wr.heap[j]?)->MapS prog 21 w' w2.heap.size (MapR L):=fun w' h=>kF.blk (h _ (by omega))
         have y0:∀w':World,(∀j,j≠r->w'.heap[j]?=wr.heap[j]?)->Live w' (w.heap.size+1) 0 (.int .i64 0):=fun w' h=>by
          have:=R0'.out;have e:=(h (w.heap.size+1) (by omega)).trans (H5.block _ (by omega));unfold Live World.cell? World.frozen? at *;rw[e];exact this
         have y1:∀w':World,(∀j,j≠r->w'.heap[j]?=wr.heap[j]?)->Live w' (w.heap.size+1) 1 (.int .i64 0):=fun w' h=>by
          have:=R1'.out;have e:=(h (w.heap.size+1) (by omega)).trans (H5.block _ (by omega));unfold Live World.cell? World.frozen? at *;rw[e];exact this
         have E1:=z7 e1;have Kr:=z7 hd;have HC:=z7 hc;have Kp:=z7 kI;have Y0:=z7 y0;have Y1:=z7 y1;clear e1 hd hc kI y0 y1;clear ht Hb kD kF
         go_wp2_with (first
          | (at_next;refine zu rfl _ rfl wr r b k rfl hI Hp p j Kr ?_;intro w3 Kh Ho kV;obtain⟨a1,a2⟩:=Y0.out w3 Ho;obtain⟨a3,a4⟩:=Y1.out w3 Ho)
          | (at_lookup;refine y0l w3 rfl _ _ rfl w2.heap.size L p rfl (Kp.out w3 Ho) rfl (by omega) (by omega) HC ?_))
         have Hv:Below w.heap.size w w3:=(kM.out.trans (H5.mono (by omega))).grown kV (by omega) (by intro q hq;cases hq;omega);refine bodyPost_ret (v:=.tuple #[.string ⟨#[]⟩,.agg #[.int .i64 6,.int .i64 k]]) (by simp[results,results297,go_sem,a1,a2,a3,a4]) rfl ?_;refine(show EncPost _ _ _ _ from⟨?_,?_⟩)
         . rw[gl.out,E1.out];rfl
         . exact(Hv.setCell (show w.heap.size<=_ from Nat.le_succ _) _).setCell (show w.heap.size<=_ from Nat.le_succ _) _
        | some c=>
         rw[hc]at ht;obtain⟨c0,c1⟩:=gL.out _ _ hc;obtain⟨c,rfl⟩:=Int.eq_ofNat_of_zero_le c0;have e1:=y05 (tok:=tokE (lsK L)) f _ k acc _ _ Hb ht;rw[kD.out,List.drop_drop,Int.toNat_natCast]at e1;have kI:∀w':World,(∀j,j≠r->w'.heap[j]?=wr.heap[j]?)->MapS prog 21 w' w2.heap.size (MapR L):=fun w' h=>kF.blk (h _ (by omega))
         have Ks:IntKind.u8.wrap (c:Int)=(c:Int):=wraps_u8 _ c0 (by omega);have Kz:(UInt8.ofNat c).toNat=c:=by rw[UInt8.toNat_ofNat'];omega
         have E1:=z7 e1;have Kr:=z7 hd;have HC:=z7 hc;have Kp:=z7 kI;have gV:=z7 Kz;clear e1 hd hc kI Kz;clear ht Hb kD kF
         go_wp2_with (first
          | (at_next;refine zu rfl _ rfl wr r b k rfl hI Hp p j Kr ?_;intro w3 Kh Ho kV)
          | (at_lookup;refine y1s w3 rfl _ _ rfl w2.heap.size L p c rfl (Kp.out w3 Ho) rfl (by omega) (by omega) HC ?_)
          | (at_builtin;(refine zR rfl _ _ 94 5 rfl underlying94 (.int .u8 0) 1 1 infoByte rfl (by decide) w3 w7.heap.size u12 acc.length (bcells acc) rfl (gR.out w3 Ho) #[.int .u8 (c:Int)] rfl (by simp[Value.oneCell']) rfl (by omega) (by omega) (by have:=kV.size;omega) ?_;intro v' w4 Hu gH gE)))
         have K9:some r≠_:=gS.out;have gj:=Kh.blk (gE r Kh.lt K9);have Kd:Below w7.heap.size W0 w4:=(H5.grown kV (by omega) (by intro q hq;cases hq;exact Kb)).trans gH;have gA:=gj.pos;have Ht:Own w4 w7.heap.size v' (acc ++ [UInt8.ofNat c]):=by
          unfold Own;rw[y0j,zH,show bcells [UInt8.ofNat c] = [.int .u8 (c:Int)] by simp only[bcells,List.map_cons,List.map_nil,gV.out]];exact Hu
         exact⟨⟨f,k+j,acc ++ [UInt8.ofNat c],Ht,gj,by omega,by rw[zH];simp;omega,by omega,z7 E1.out.symm,Kd⟩,by rw[Kn.out,gA];omega⟩
      . have gD:k=b.size:=by omega
        subst gD;have e1:runT (tokE (lsK L)) f ((bl b).drop b.size) b.size acc=(acc,none):=by
         rw[List.drop_of_length_le (by rw[kO.out];exact zA)];exact y39 f _ acc
        rw[kD.out]at e1;have E1:=z7 e1;have Ke:=H5.block (w.heap.size+1) (by omega);obtain⟨a1,a2⟩:Live wr (w.heap.size+1) 0 (.int .i64 0):=by
         have:=R0'.out;unfold Live World.cell? World.frozen? at *;rw[Ke];exact this
        obtain⟨a3,a4⟩:Live wr (w.heap.size+1) 1 (.int .i64 0):=by
         have:=R1'.out;unfold Live World.cell? World.frozen? at *;rw[Ke];exact this
        have Ga:=y16 H8;have Hv:Below w.heap.size w wr:=kM.out.trans (H5.mono (by omega));clear e1 Ke kF
        go_wp2_with (at_next;refine y10 rfl _ rfl wr r b b.size rfl hI (zA) ?_)
        refine bodyPost_ret (v:=.tuple #[.string ⟨acc.toArray⟩,.agg #[.int .i64 0,.int .i64 0]]) (by simp[results,results297,go_sem,a1,a2,a3,a4]) rfl ?_;refine(show EncPost _ _ _ _ from⟨?_,?_⟩)
        . rw[gl.out,E1.out];rfl
        . exact(Hv.setCell (show w.heap.size<=_ from Nat.le_succ _) _).setCell (show w.heap.size<=_ from Nat.le_succ _) _
