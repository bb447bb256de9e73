/- P9 -/
import Derived.Test.YtndlekaahjccdaaGreatDoorP8
set_option linter.all false
set_option maxRecDepth 100000
set_option maxHeartbeats 40000000
set_option maxHeartbeats 4000000
namespace Go.Proofs.YtndlekaahjccdaaGreatDoor
open Go.RowKit Go.Proofs.Tryz
theorem yHK(p:PC)(w:World)(hT:TW w)(hp:p.Right)(hz:p.tx.size≠0->p.tq=0/\p.ct=0):Calls prog 377 #[p.val] w (RowPost p w):=by
 obtain⟨fr,tq,ct,tx⟩:=p;by_cases h0:tx.size=0
 . have:tx=ByteArray.empty:=by
    obtain⟨⟨l⟩⟩:=tx;cases l with
    | nil=>rfl
    | cons a l=>simp[ByteArray.size]at h0
   subst this;exact yHJ fr tq ct w hp
 . obtain⟨h1,h2⟩:=hz h0
   simp only at h1 h2;subst h1 h2;exact yEV fr tx w hT h0 hp
def y5C(l:List PC):List Value:=l.flatMap fun p=>[.int .i64 p.fr,.int .i32 p.tq,.int .i64 p.ct,.string p.tx]
theorem yEZ(X:List PC)(i:Nat)(r:PC)(h:X[i]?=some r)(j:Nat)(hj:j<4):(y5C X)[i*4+j]? = [Value.int .i64 r.fr,.int .i32 r.tq,.int .i64 r.ct,.string r.tx][j]?:=by
 induction X generalizing i with
 | nil=>simp at h
 | cons x X ih=>
  rw[y5C,List.flatMap_cons,<-y5C];cases i with
  | zero=>
   simp only[List.getElem?_cons_zero,Option.some.injEq]at h;subst h;rw[List.getElem?_append_left (by simp;omega)];simp
  | succ i=>
   rw[List.getElem?_append_right (by simp;omega)];rw[show(i+1)*4+j - [Value.int .i64 x.fr,.int .i32 x.tq,.int .i64 x.ct,.string x.tx].length=i*4+j from by simp;omega];exact ih i (by simpa using h)
theorem yEM(p:PC)(hp:p.Right):0<=p.row.fr/\1<=p.row.ct/\p.row.fr+p.row.ct<=1048576:=by
 unfold PC.Right at hp;unfold PC.row;split
 . rename_i h
   rw[if_pos h]at hp;have:=hp.1;simp[insideB]at this;simp only;omega
 . rename_i h
   rw[if_neg h]at hp;obtain⟨_,n,hn,hi⟩:=hp;have:=y1D _ _ hn;simp[insideB]at hi;simp only;omega
def RP.has(r:RP)(c:Int):Prop:=r.fr<=c/\c<r.fr+r.ct
def bcellsB(l:List Bool):List Value:=l.map Value.bool
theorem infoBool:(Tryz.prog.info? 4).map (fun i=>(i.zero,i.size,i.bytes))=some (some (.bool false),1,1):=by kernel_rfl
theorem y5T:(Tryz.prog.info? 350).map (fun i=>(i.zero,i.size,i.bytes))=some (some (.agg #[.int .i64 0,.int .i64 0,.int .i32 0,.slice none 0 0]),4,48):=by kernel_rfl
def yK7(PS:List PC)(B:Nat)(w:World)(e:Ending)(w':World):Prop:=
 ∃v X,e=.returned (.tuple #[.agg #[v],.agg #[.int .i64 0,.int .i64 0]])/\OwnR w' B v X/\(X.map RR.pl).Perm (PS.map PC.row)/\(X.Pairwise fun a b=>a.fr<=b.fr)/\(∀r∈X,r.Ok w')/\Below w.heap.size w w'
theorem y0f{w:World}{B:Nat}{e e':TypeId}{s n b:Nat}{v:Value}{cs:List Value}{cur:Array Value}{fr:Nat×Nat}(h:w.ownsRow B e s v n cs)(hb:w.heap[b]?=some (.cells cur e' fr))(H5:e≠e'):v.ownBlock≠some b:=by
 intro hk;rcases h.2 with⟨rfl,_⟩|⟨g,cap,cur,rfl,_,hh,_⟩
 . simp[Value.ownBlock]at hk
 . simp only[Value.ownBlock,Option.some.injEq]at hk
   subst hk;rw[hh]at hb;simp at hb;exact H5 hb.2.1
theorem zN{w:World}{B:Nat}{e:TypeId}{s n:Nat}{v:Value}{cs:List Value}(h:w.ownsRow B e s v n cs):∃a c,v=.slice a n c:=by
 rcases h.2 with⟨rfl,rfl⟩|⟨g,cap,cur,rfl,_⟩
 . exact⟨_,_,rfl⟩
 . exact⟨_,_,rfl⟩
theorem y1F{w:World}{B:Nat}{e:TypeId}{s n:Nat}{v:Value}{cs:List Value}(h:w.ownsRow B e s v n cs)(hn:n≠0):∃g c,v=.slice (some ⟨g,0,none⟩) n c/\B<=g:=by
 rcases h.2 with⟨_,h0⟩|⟨g,cap,cur,rfl,hb,_⟩
 . exact absurd h0 hn
 . exact⟨_,_,rfl,hb⟩
theorem yIl(l:List Bool)(j:Nat)(b:Bool)(h:l[j]?=some b):(bcellsB l)[j]?=some (.bool b):=by simp[bcellsB,h]
theorem yAj(l:List Bool)(j:Nat)(b:Bool):(bcellsB l).set j (.bool b)=bcellsB (l.set j b):=by simp[bcellsB,List.map_set]
theorem yEz(v:Value)(PS:List PC)(w:World)(hT:TW w)(gr:Row w v PS.length (y5C PS))(G9:PS ≠ [])(gu:PS.length<=1000)(hR:∀p∈PS,p.Right/\(p.tx.size≠0->p.tq=0/\p.ct=0))
 (Kl:PS.Pairwise fun p q=>∀c,¬(p.row.has c/\q.row.has c)):Calls prog 329 #[v] w (yK7 PS w.heap.size w):=by
 obtain⟨av,cap,rfl,hc⟩:=gr;obtain⟨n,hn⟩:∃n,n=PS.length:=⟨_,rfl⟩;rw[<-hn]at gu ⊢;have HN:=z7 hn;have HC:=z7 hc;have HR:=z7 hR;have HD:=z7 Kl;have GC:=z7 G9;clear hn hc hR Kl G9
 go_enter func329,ntmps329
 go_wp2_with fail
 obtain⟨W,hW⟩:∃W,W=(w.alloc (.cells #[.slice none 0 0] 228)).alloc (.cells #[.int .i64 0,.int .i64 0] 40):=⟨_,rfl⟩;rw[<-hW];have m0:Live W w.heap.size 0 (.slice none 0 0):=by rw[hW];exact(Live.fresh w _ _ 0 _ rfl).alloc _
 have kx:(w.alloc (.cells #[.slice none 0 0] 228)).heap.size=w.heap.size+1:=World.size_alloc _ _;have m1:Live W (w.heap.size+1) 0 (.int .i64 0):=by rw[hW,<-kx];exact Live.fresh _ _ _ 0 _ rfl
 have m2:Live W (w.heap.size+1) 1 (.int .i64 0):=by rw[hW,<-kx];exact Live.fresh _ _ _ 1 _ rfl
 have Gg:TW W:=by rw[hW];exact(hT.alloc _).alloc _
 have Ge:Below w.heap.size w W:=by rw[hW];exact bal (bal (z8) _) _
 have Gh:W.heap[w.heap.size]?=some (.cells #[.slice none 0 0] 228 (0,0))/\W.heap[w.heap.size+1]?=some (.cells #[.int .i64 0,.int .i64 0] 40 (0,0)):=by
  rw[hW];refine⟨(heap_alloc_old _ _ (by rw[kx];omega)).trans (heap_alloc_new _ _),?_⟩;rw[<-kx];exact heap_alloc_new _ _
 clear hW kx hT;have Gz:=z7 Gh;have M0:=z7 m0;have M1:=z7 m1;have M2:=z7 m2;have Gy:=z7 Gg;have kZ:=z7 Ge;clear Gh m0 m1 m2 Gg Ge
 go_loopw [4,5,14] (fun rv sv i wr=>∃(k:Nat) (X:List RR) (sb:List Bool),k<=n/\i=.int .i64 (k:Int)/\OwnR wr W.heap.size rv X/\Hid (X.map RR.pl=(PS.take k).map PC.row)/\Hid (∀r∈X,r.Ok wr) /\
  wr.ownsRow W.heap.size 4 1 sv sb.length (bcellsB sb)/\sb.length<=1048576/\Hid (∀c:Nat,sb[c]?=some true->∃p∈PS.take k,p.row.has c)/\Below W.heap.size W wr) (fun _ _ i _=>n-(intOf i).toNat)
 case atStart=>exact⟨0,[],[],zD,rfl,World.ownsRow_nil _ _ _ _,rfl,by intro r hr;simp at hr,World.ownsRow_nil _ _ _ _,by simp,by intro c h;simp at h,z8⟩
 case round=>
  obtain⟨k,X,sb,hk,rfl,hX,Ku,Kt,gZ,kJ,HQ,Hb⟩:=hrel;have Gw:=Gy.out.bel Hb;by_cases Kj:k<n
  . obtain⟨p,hp⟩:=zM PS k (by rw[<-HN.out];exact Kj)
    obtain⟨G8,Gk⟩:=HR.out p (List.mem_of_getElem? hp);obtain⟨b0,b1,b2⟩:=yEM p G8;have ha:=fun j (hj:j<4)=>HC.out (k*4+j) _ (by rw[yEZ PS k p hp j hj,List.getElem?_eq_getElem (by simpa using hj)])
    obtain⟨g,o,rfl,a0⟩:=ha 0 (by omega);have Hv:∀j (hj:j<4),w.cell? ⟨g,o+(k*4+j),none⟩=some ([Value.int .i64 p.fr,.int .i32 p.tq,.int .i64 p.ct,.string p.tx][j]):=fun j hj=>by
     obtain⟨g',o',e,h⟩:=ha j hj;simp only[Option.some.injEq,Addr.mk.injEq]at e;obtain⟨rfl,rfl,_⟩:=e;exact h
    have c0:wr.cell? ⟨g,o+k*4,none⟩=some (.int .i64 p.fr):=kc Hb (kc kZ.out (Hv 0 (by omega)));have c1:wr.cell? ⟨g,o+k*4+1,none⟩=some (.int .i32 p.tq):=kc Hb (kc kZ.out (Hv 1 (by omega)));have c2:wr.cell? ⟨g,o+k*4+2,none⟩=some (.int .i64 p.ct):=kc Hb (kc kZ.out (Hv 2 (by omega)));have c3:wr.cell? ⟨g,o+k*4+3,none⟩=some (.string p.tx):=kc Hb (kc kZ.out (Hv 3 (by omega)));have x1:=fun W hT=>yHK p W hT G8 Gk
    have Gd:∀q∈PS.take k,∀c,¬(q.row.has c/\p.row.has c):=by
     intro q hq c;obtain⟨j,hj⟩:=List.getElem?_of_mem hq;rw[List.getElem?_take]at hj;split at hj
     . rename_i Gp
       obtain⟨Gr,Gq⟩:=List.getElem?_eq_some_iff.1 hj;obtain⟨Gm,Gl⟩:=List.getElem?_eq_some_iff.1 hp;have:=List.pairwise_iff_getElem.1 HD.out j k Gr Gm Gp c
       rwa [Gq,Gl]at this
     . cases hj
    have X1:=z7 x1;have Gj:=z7 Gd;have HP:=z7 hp;have HX:=z7 hX;have Gi:=z7 gZ;clear x1 Gd hp hX gZ;clear ha Hv a0;simp only[PC.val,y0L]at X1
    go_wp2_with fail
    refine(X1.out _ (Gw.alloc _)).mono ?_;rintro e w1 ⟨r,rfl,gp,Kg,Kr⟩;obtain⟨rf,rc,rt,ra,rl,rp,rs⟩:=r;simp only[RR.enc,RR.sv,RR.pl]at *;rw[<-gp]at b0 b1 b2;simp only at b0 b1 b2;obtain⟨f,rfl⟩:=Int.eq_ofNat_of_zero_le b0;have Ka:X.length<=1000:=by
     have:=congrArg List.length Ku.out;rw[List.length_map,List.length_map,List.length_take,<-HN.out]at this;omega
    have Kk:=fun w=>y5f f rc rt (.slice ra rl rp) w (by omega) (by omega)
    have Ko:Below W.heap.size W w1:=bt (bal Hb _) Kr;have k9:OwnR w1 W.heap.size _ X:=zK (zK HX.out ((z8).alloc (zA) _)) Kr;have kx:=zK (zK Gi.out ((z8).alloc (zA) _)) Kr;obtain⟨a5,c5,rfl⟩:=zN Gi.out;have kC:∀r∈X,r.Ok w1:=fun r hr=>((Kt.out r hr).keep ((z8).alloc (zA) _)).keep Kr
    have HE:=z7 Kk;have Kb:=z7 gp;have gJ:=z7 k9;have GA:=z7 kx;have gP:=z7 Kg;have Kz:=z7 kC;clear Kk gp k9 kx Kg kC;clear Kr c0 c1 c2 c3
    go_wp2_with fail
    refine(HE.out _).mono ?_;rintro e w2 ⟨rfl,kR⟩;have Kn:w2.heap[w1.heap.size]?=some (.cells #[.int .i64 f,.int .i64 rc,.int .i32 rt,.slice ra rl rp] 350 (0,0)):=(kR.block _ (by simp)).trans (heap_alloc_new _ _);have K9:Below w1.heap.size w1 w2:=bt ((z8).alloc (zA) _) kR;have Hm:Below W.heap.size W w2:=bt Ko K9;have kU:OwnR w2 W.heap.size _ X:=zK gJ.out K9;have G7:=zK GA.out K9;have kA:∀r∈X,r.Ok w2:=fun r hr=>(Kz.out r hr).keep K9
    have ky:=gP.out.keep K9;have gd:=z7 kU;have kW:=z7 G7;have kF:=z7 kA;have kH:=z7 ky;have Hw:=z7 Kn;clear kU G7 kA ky Kn;clear kR K9;have q0:w2.cell? ⟨w1.heap.size,0,none⟩=some (.int .i64 f):=by rw[cell_of_row _ _ _ _ _ _ Hw.out];rfl
    by_cases gm:(sb.length:Int)<f+rc
    . obtain⟨m,hm⟩:∃m:Nat,(f:Int)+rc-(sb.length:Int)=(m:Int):=⟨((f:Int)+rc-(sb.length:Int)).toNat,by omega⟩
      have Kh:=y0f kW.out Hw.out (by decide);have gi:=z7 Kh;clear Kh
      go_wp2_with (at_builtin;(refine y2h rfl _ _ 381 3 4 rfl .i64 underlying381 underlying3 (.bool false) 1 infoBool rfl rfl w2 W.heap.size (.slice a5 sb.length c5) sb.length (bcellsB sb) rfl kW.out .i64 m rfl (by omega) (by unfold maxLen;omega) (by omega) Hm.size ?_;intro sv w3 Kf kO;have q0':=y3n q0 kO gi.out))
      have Ha:Below W.heap.size W w3:=Hm.grown kO Hm.size (fun q hq=>(zf kW.out q hq).1);have kD:OwnR w3 W.heap.size _ X:=y9x gd.out kO (fun q hq e=>y5E gd.out kW.out (by decide) q hq e);have Hy:=(kO.block _ (Array.getElem?_eq_some_iff.1 Hw.out).1 (fun e=>gi.out e.symm)).trans Hw.out;have H8:∀r∈X,r.Ok w3:=fun r hr=>yCd (kF.out r hr) kO kW.out (by decide)
      have H7:=yCd kH.out kO kW.out (by decide);obtain⟨sb1,He⟩:∃sb1,sb1=sb++List.replicate m false:=⟨_,rfl⟩;obtain⟨sn,kI⟩:∃sn,sn=sb1.length:=⟨_,rfl⟩;have Kc:sn=sb.length+m:=by rw[kI,He];simp
      have Hi:w3.ownsRow W.heap.size 4 1 sv sn (bcellsB sb1):=by
       rw[Kc,He];have:bcellsB (sb++List.replicate m false)=bcellsB sb++List.replicate m (.bool false):=by simp[bcellsB]
       rw[this];exact Kf
      have kz:∀c:Nat,sb1[c]?=some true->sb[c]?=some true:=by
       intro c h;rw[He,List.getElem?_append]at h;split at h
       . exact h
       . rw[List.getElem?_replicate]at h
         split at h
         . simp at h
         . cases h
      have Gs:(f:Int)+rc<=sn:=by omega
      have Ho:sn<=1048576:=by omega
      have gN:=z7 kI;clear kI;clear Kf kO He Kc hm gm q0 q0';obtain⟨g5,cap5,rfl,gB⟩:=y1F Hi (by omega);have Hd:OwnR w3 W.heap.size _ X:=kD;have Hr:=y5E Hd Hi (by decide);have Hs:=y0f Hi Hy (by decide);have gf:=z7 Hi;have KZ:=z7 Hd;have gS:=z7 Hr;have gU:=z7 Hs;have gl:=z7 Hy;have gH:=z7 H8;have gR:=z7 H7;have gj:=z7 kz;clear Hd Hr Hs Hy H8 H7 kz;clear Hi kD
      go_loopw [11] (fun cv wq=>∃(c:Nat) (sq:List Bool),cv=.int .i64 (c:Int)/\f<=c/\(c:Int)<=f+rc/\wq.ownsRow W.heap.size 4 1 (.slice (some ⟨g5,0,none⟩) sn cap5) sn (bcellsB sq)/\Hid (sq.length=sn) /\
       Hid (∀j:Nat,sq[j]?=some true->sb1[j]?=some true\/(f<=j/\j<c))/\w3.grownBy wq (some g5)) (fun cv _=>(f+rc-intOf cv).toNat)
      case atStart=>exact⟨f,sb1,rfl,zA,by omega,gf.out,gN.out.symm,fun j h=>.inl h,yFg _ _⟩
      case round=>
       obtain⟨c,sq,rfl,Gu,Gt,Hk,Hc,Hj,Hn⟩:=hrel;have Hh:wr.heap[w1.heap.size]?=some (.cells #[.int .i64 f,.int .i64 rc,.int .i32 rt,.slice ra rl rp] 350 (0,0)):=(Hn.block _ (Array.getElem?_eq_some_iff.1 gl.out).1 (fun e=>gU.out e.symm)).trans gl.out;have d0:wr.cell? ⟨w1.heap.size,0,none⟩=some (.int .i64 f):=by rw[cell_of_row _ _ _ _ _ _ Hh];rfl
       have d1:wr.cell? ⟨w1.heap.size,1,none⟩=some (.int .i64 rc):=by rw[cell_of_row _ _ _ _ _ _ Hh];rfl
       have d2:wr.cell? ⟨w1.heap.size,2,none⟩=some (.int .i32 rt):=by rw[cell_of_row _ _ _ _ _ _ Hh];rfl
       have d3:wr.cell? ⟨w1.heap.size,3,none⟩=some (.slice ra rl rp):=by rw[cell_of_row _ _ _ _ _ _ Hh];rfl
       by_cases gF:(c:Int)<f+rc
       . have gE:c<sn:=by omega
         have H6:sq[c]?=some false:=by
          have hl:c<sq.length:=by rw[Hc.out];exact gE
          rw[List.getElem?_eq_getElem hl];cases hv:sq[c]with
          | false=>rfl
          | true=>
           exfalso
           rcases Hj.out c (by rw[List.getElem?_eq_getElem hl,hv])with h|⟨_,h⟩
           . obtain⟨q,hq,kK⟩:=HQ.out c (gj.out c h)
             exact Gj.out q hq c ⟨kK,by rw[<-Kb.out];exact⟨by show(f:Int)<=c;omega,gF⟩⟩
           . omega
         have H9:wr.cell? ⟨g5,c,none⟩=some (.bool false):=by rw[Hk.cellAt c (by omega)];exact yIl sq c false H6
         have gD:=Hk.frozenAt c;have Hq:∀j:Nat,(sq.set c true)[j]?=some true->sb1[j]?=some true\/(f<=j/\j<c+1):=by
          intro j h;rw[List.getElem?_set]at h;split at h
          . rename_i e;exact .inr ⟨by omega,by omega⟩
          . rcases Hj.out j h with h'|h'
            . exact .inl h'
            . exact .inr ⟨h'.1,by omega⟩
         have gt:g5<wr.heap.size:=zp H9;have kX:=z7 Hq;have gM:=z7 Hk;have gX:=z7 Hh;have HF:=z7 H6;clear Hq Hk Hh H6
         go_wp2_with (go_at_call 335;refine(HE.out _).mono ?_;rintro e wa ⟨rfl,H5⟩;have kP:=kc H5 H9;have gC:=kf H5 H9 gD)
         have Hz:=(zK gM.out H5).stored c (.bool true);rw[yAj]at Hz;have gA:=y2O (y2O Hn (y4d H5 _)) Hz.2;have gL:=z7 Hz;clear Hz;go_roundw
         case rel=>exact⟨c+1,sq.set c true,by go_num,by omega,by omega,gL.out.1,by show _=_;rw[List.length_set];exact Hc.out,kX.out,gA⟩
         case measure=>simp[intOf];omega
       . have Km:(c:Int)=f+rc:=by omega
         have Ks:=y9x KZ.out Hn (fun k hk e=>gS.out k hk e);have Kx:W.heap.size<=wr.heap.size:=zE Ha.size Hn.size;have gV:=z7 Km;have kV:=z7 Ks;have gX:=z7 Hh;have gK:=z7 Kx;clear Km Ks Hh Kx
         go_wp2_with (first
          | (go_at_call 335;refine(HE.out _).mono ?_;rintro e wa ⟨rfl,H5⟩;have d0':=kc H5 d0;have d1':=kc H5 d1;have d2':=kc H5 d2;have d3':=kc H5 d3;have gG:W.heap.size<=wa.heap.size:=(zE gK.out H5.size))
          | (at_builtin;(refine zR rfl _ _ 226 350 rfl underlying226 (.agg #[.int .i64 0,.int .i64 0,.int .i32 0,.slice none 0 0]) 4 48 y5T rfl (by decide) wa W.heap.size u4 X.length (rcells X) rfl (zK kV.out H5) #[.int .i64 f,.int .i64 rc,.int .i32 rt,.slice ra rl rp] rfl (by simp[Value.oneCell']) rfl (by omega) (by omega) gG ?_;intro v' w4 Kw Kq kM)))
         have Ht:w3.grownBy wa (some g5):=y2O Hn (y4d H5 _);have kQ:Below W.heap.size W wa:=Ha.grown Ht Ha.size (by intro q hq;cases hq;exact gB);have Ke:w4.ownsRow W.heap.size 4 1 (.slice (some ⟨g5,0,none⟩) sn cap5) sn (bcellsB sq):=za (zK Hk H5) fun q hq=>by
          have Kj:=(zf (zK Hk H5) q hq).2;exact kM q Kj (fun e=>(y5E (zK kV.out H5) (zK Hk H5) (by decide)) q e.symm hq)
         have Ky:∀(r:RR),r.Ok wa->r.Ok w4:=fun r hr=>hr.blk fun q cur hq=>kM q (Array.getElem?_eq_some_iff.1 hq).1 (fun e=>(y0f (zK kV.out H5) hq (by decide)) e.symm)
         have Hl:∀(r:RR),r.Ok w3->r.Ok w4:=fun r hr=>Ky r ((yCd (v:=.slice (some ⟨g5,0,none⟩) sn cap5) hr Hn gf.out (by decide)).keep H5)
         have Kv:OwnR w4 W.heap.size v' (X ++ [⟨f,rc,rt,ra,rl,rp,rs⟩]):=by unfold OwnR;rw[y0e,zH];exact Kw
         have Ki:(X ++ [(⟨f,rc,rt,ra,rl,rp,rs⟩:RR)]).map RR.pl=(PS.take (k+1)).map PC.row:=by
          rw[List.map_append,Ku.out,List.take_add_one,HP.out,List.map_append];simp only[Option.toList,List.map_cons,List.map_nil,RR.pl];rw[Kb.out]
         have Hp:∀r∈X ++ [(⟨f,rc,rt,ra,rl,rp,rs⟩:RR)],r.Ok w4:=by
          intro r hr;rcases List.mem_append.1 hr with h|h
          . exact Hl r (gH.out r h)
          . simp only[List.mem_singleton]at h;rw[h];exact Hl _ gR.out
         have Hg:∀c:Nat,sq[c]?=some true->∃p∈PS.take (k+1),p.row.has c:=by
          intro j hj;rw[List.take_add_one,HP.out];rcases Hj.out j hj with h|⟨h1,h2⟩
          . obtain⟨q,hq,kK⟩:=HQ.out j (gj.out j h)
            exact⟨q,List.mem_append_left _ hq,kK⟩
          . refine⟨p,List.mem_append_right _ (by simp),?_⟩
            rw[<-Kb.out];have:=gV.out;exact⟨by show(f:Int)<=j;omega,by show(j:Int)<f+rc;omega⟩
         have Kp:Below W.heap.size W w4:=kQ.trans Kq;have Kd:w4.ownsRow W.heap.size 4 1 (.slice (some ⟨g5,0,none⟩) sn cap5) sq.length (bcellsB sq):=by rw[Hc.out];exact Ke
         have Hu:∃(k':Nat) (X':List RR) (sb':List Bool),k'<=n/\Value.int .i64 ((k:Int)+1)=.int .i64 (k':Int)/\OwnR w4 W.heap.size v' X'/\Hid (X'.map RR.pl=(PS.take k').map PC.row)/\Hid (∀r∈X',r.Ok w4) /\
          w4.ownsRow W.heap.size 4 1 (.slice (some ⟨g5,0,none⟩) sn cap5) sb'.length (bcellsB sb')/\sb'.length<=1048576/\Hid (∀c:Nat,sb'[c]?=some true->∃p∈PS.take k',p.row.has c)/\Below W.heap.size W w4:=
          ⟨k+1,_,sq,by omega,by go_num,Kv,Ki,Hp,Kd,by rw[Hc.out];exact Ho,Hg,Kp⟩
         have kY:=z7 Hu;clear Hu;clear Kw Ke Ky Hl Kv Ki Hp Hg Kp Kd kM Kq Ht;go_roundw
         case rel=>exact kY.out
         case measure=>simp[intOf];omega
    . have Ha:=Hm
      have kD:OwnR w2 W.heap.size _ X:=gd.out;have Hy:=Hw.out;have H8:=kF.out;have H7:=kH.out;obtain⟨sb1,He⟩:∃sb1,sb1=sb:=⟨_,rfl⟩;have kz:∀c:Nat,sb1[c]?=some true->sb[c]?=some true:=by rw[He];exact fun _ h=>h
      have Hi:=kW.out;rw[<-He]at Hi gm kJ ⊢;obtain⟨sn,kI⟩:∃sn,sn=sb1.length:=⟨_,rfl⟩;rw[<-kI]at Hi gm kJ ⊢;have Gs:(f:Int)+rc<=sn:=by omega
      have Ho:sn<=1048576:=kJ;have gN:=z7 kI;have gY:=z7 Hy;have KX:=z7 H8;have gW:=z7 kz;have gO:=z7 Hi;have gI:=z7 kD;have gQ:=z7 H7;clear kI Hy H8 kz Hi kD H7;clear He
      go_wp2_with fail
      have Hy:=gY.out;have H8:=KX.out;have kz:=gW.out;have Hi:=gO.out;have kD:=gI.out;have H7:=gQ.out;clear gm q0;obtain⟨g5,cap5,Gc,gB⟩:=y1F Hi (by omega);simp only[Value.slice.injEq,true_and]at Gc;obtain⟨rfl,rfl⟩:=Gc;have Hd:OwnR w2 W.heap.size _ X:=kD;have Hr:=y5E Hd Hi (by decide);have Hs:=y0f Hi Hy (by decide);have gf:=z7 Hi;have KZ:=z7 Hd;have gS:=z7 Hr;have gU:=z7 Hs;have gl:=z7 Hy;have gH:=z7 H8;have gR:=z7 H7;have gj:=z7 kz;clear Hd Hr Hs Hy H8 H7 kz;clear Hi kD
      go_loopw [11] (fun cv wq=>∃(c:Nat) (sq:List Bool),cv=.int .i64 (c:Int)/\f<=c/\(c:Int)<=f+rc/\wq.ownsRow W.heap.size 4 1 (.slice (some ⟨g5,0,none⟩) sn c5) sn (bcellsB sq)/\Hid (sq.length=sn) /\
       Hid (∀j:Nat,sq[j]?=some true->sb1[j]?=some true\/(f<=j/\j<c))/\w2.grownBy wq (some g5)) (fun cv _=>(f+rc-intOf cv).toNat)
      case atStart=>exact⟨f,sb1,rfl,zA,by omega,gf.out,gN.out.symm,fun j h=>.inl h,yFg _ _⟩
      case round=>
       obtain⟨c,sq,rfl,Gu,Gt,Hk,Hc,Hj,Hn⟩:=hrel;have Hh:wr.heap[w1.heap.size]?=some (.cells #[.int .i64 f,.int .i64 rc,.int .i32 rt,.slice ra rl rp] 350 (0,0)):=(Hn.block _ (Array.getElem?_eq_some_iff.1 gl.out).1 (fun e=>gU.out e.symm)).trans gl.out;have d0:wr.cell? ⟨w1.heap.size,0,none⟩=some (.int .i64 f):=by rw[cell_of_row _ _ _ _ _ _ Hh];rfl
       have d1:wr.cell? ⟨w1.heap.size,1,none⟩=some (.int .i64 rc):=by rw[cell_of_row _ _ _ _ _ _ Hh];rfl
       have d2:wr.cell? ⟨w1.heap.size,2,none⟩=some (.int .i32 rt):=by rw[cell_of_row _ _ _ _ _ _ Hh];rfl
       have d3:wr.cell? ⟨w1.heap.size,3,none⟩=some (.slice ra rl rp):=by rw[cell_of_row _ _ _ _ _ _ Hh];rfl
       by_cases gF:(c:Int)<f+rc
       . have gE:c<sn:=by omega
         have H6:sq[c]?=some false:=by
          have hl:c<sq.length:=by rw[Hc.out];exact gE
          rw[List.getElem?_eq_getElem hl];cases hv:sq[c]with
          | false=>rfl
          | true=>
           exfalso
           rcases Hj.out c (by rw[List.getElem?_eq_getElem hl,hv])with h|⟨_,h⟩
           . obtain⟨q,hq,kK⟩:=HQ.out c (gj.out c h)
             exact Gj.out q hq c ⟨kK,by rw[<-Kb.out];exact⟨by show(f:Int)<=c;omega,gF⟩⟩
           . omega
         have H9:wr.cell? ⟨g5,c,none⟩=some (.bool false):=by rw[Hk.cellAt c (by omega)];exact yIl sq c false H6
         have gD:=Hk.frozenAt c;have Hq:∀j:Nat,(sq.set c true)[j]?=some true->sb1[j]?=some true\/(f<=j/\j<c+1):=by
          intro j h;rw[List.getElem?_set]at h;split at h
          . rename_i e;exact .inr ⟨by omega,by omega⟩
          . rcases Hj.out j h with h'|h'
            . exact .inl h'
            . exact .inr ⟨h'.1,by omega⟩
         have gt:g5<wr.heap.size:=zp H9;have kX:=z7 Hq;have gM:=z7 Hk;have gX:=z7 Hh;have HF:=z7 H6;clear Hq Hk Hh H6
         go_wp2_with (go_at_call 335;refine(HE.out _).mono ?_;rintro e wa ⟨rfl,H5⟩;have kP:=kc H5 H9;have gC:=kf H5 H9 gD)
         have Hz:=(zK gM.out H5).stored c (.bool true);rw[yAj]at Hz;have gA:=y2O (y2O Hn (y4d H5 _)) Hz.2;have gL:=z7 Hz;clear Hz;go_roundw
         case rel=>exact⟨c+1,sq.set c true,by go_num,by omega,by omega,gL.out.1,by show _=_;rw[List.length_set];exact Hc.out,kX.out,gA⟩
         case measure=>simp[intOf];omega
       . have Km:(c:Int)=f+rc:=by omega
         have Ks:=y9x KZ.out Hn (fun k hk e=>gS.out k hk e);have Kx:W.heap.size<=wr.heap.size:=zE Ha.size Hn.size;have gV:=z7 Km;have kV:=z7 Ks;have gX:=z7 Hh;have gK:=z7 Kx;clear Km Ks Hh Kx
         go_wp2_with (first
          | (go_at_call 335;refine(HE.out _).mono ?_;rintro e wa ⟨rfl,H5⟩;have d0':=kc H5 d0;have d1':=kc H5 d1;have d2':=kc H5 d2;have d3':=kc H5 d3;have gG:W.heap.size<=wa.heap.size:=(zE gK.out H5.size))
          | (at_builtin;(refine zR rfl _ _ 226 350 rfl underlying226 (.agg #[.int .i64 0,.int .i64 0,.int .i32 0,.slice none 0 0]) 4 48 y5T rfl (by decide) wa W.heap.size u4 X.length (rcells X) rfl (zK kV.out H5) #[.int .i64 f,.int .i64 rc,.int .i32 rt,.slice ra rl rp] rfl (by simp[Value.oneCell']) rfl (by omega) (by omega) gG ?_;intro v' w4 Kw Kq kM)))
         have Ht:w2.grownBy wa (some g5):=y2O Hn (y4d H5 _);have kQ:Below W.heap.size W wa:=Ha.grown Ht Ha.size (by intro q hq;cases hq;exact gB);have Ke:w4.ownsRow W.heap.size 4 1 (.slice (some ⟨g5,0,none⟩) sn c5) sn (bcellsB sq):=za (zK Hk H5) fun q hq=>by
          have Kj:=(zf (zK Hk H5) q hq).2;exact kM q Kj (fun e=>(y5E (zK kV.out H5) (zK Hk H5) (by decide)) q e.symm hq)
         have Ky:∀(r:RR),r.Ok wa->r.Ok w4:=fun r hr=>hr.blk fun q cur hq=>kM q (Array.getElem?_eq_some_iff.1 hq).1 (fun e=>(y0f (zK kV.out H5) hq (by decide)) e.symm)
         have Hl:∀(r:RR),r.Ok w2->r.Ok w4:=fun r hr=>Ky r ((yCd (v:=.slice (some ⟨g5,0,none⟩) sn c5) hr Hn gf.out (by decide)).keep H5)
         have Kv:OwnR w4 W.heap.size v' (X ++ [⟨f,rc,rt,ra,rl,rp,rs⟩]):=by unfold OwnR;rw[y0e,zH];exact Kw
         have Ki:(X ++ [(⟨f,rc,rt,ra,rl,rp,rs⟩:RR)]).map RR.pl=(PS.take (k+1)).map PC.row:=by
          rw[List.map_append,Ku.out,List.take_add_one,HP.out,List.map_append];simp only[Option.toList,List.map_cons,List.map_nil,RR.pl];rw[Kb.out]
         have Hp:∀r∈X ++ [(⟨f,rc,rt,ra,rl,rp,rs⟩:RR)],r.Ok w4:=by
          intro r hr;rcases List.mem_append.1 hr with h|h
          . exact Hl r (gH.out r h)
          . simp only[List.mem_singleton]at h;rw[h];exact Hl _ gR.out
         have Hg:∀c:Nat,sq[c]?=some true->∃p∈PS.take (k+1),p.row.has c:=by
          intro j hj;rw[List.take_add_one,HP.out];rcases Hj.out j hj with h|⟨h1,h2⟩
          . obtain⟨q,hq,kK⟩:=HQ.out j (gj.out j h)
            exact⟨q,List.mem_append_left _ hq,kK⟩
          . refine⟨p,List.mem_append_right _ (by simp),?_⟩
            rw[<-Kb.out];have:=gV.out;exact⟨by show(f:Int)<=j;omega,by show(j:Int)<f+rc;omega⟩
         have Kp:Below W.heap.size W w4:=kQ.trans Kq;have Kd:w4.ownsRow W.heap.size 4 1 (.slice (some ⟨g5,0,none⟩) sn c5) sq.length (bcellsB sq):=by rw[Hc.out];exact Ke
         have Hu:∃(k':Nat) (X':List RR) (sb':List Bool),k'<=n/\Value.int .i64 ((k:Int)+1)=.int .i64 (k':Int)/\OwnR w4 W.heap.size v' X'/\Hid (X'.map RR.pl=(PS.take k').map PC.row)/\Hid (∀r∈X',r.Ok w4) /\
          w4.ownsRow W.heap.size 4 1 (.slice (some ⟨g5,0,none⟩) sn c5) sb'.length (bcellsB sb')/\sb'.length<=1048576/\Hid (∀c:Nat,sb'[c]?=some true->∃p∈PS.take k',p.row.has c)/\Below W.heap.size W w4:=
          ⟨k+1,_,sq,by omega,by go_num,Kv,Ki,Hp,Kd,by rw[Hc.out];exact Ho,Hg,Kp⟩
         have kY:=z7 Hu;clear Hu;clear Kw Ke Ky Hl Kv Ki Hp Hg Kp Kd kM Kq Ht;go_roundw
         case rel=>exact kY.out
         case measure=>simp[intOf];omega
  . have Gn:k=n:=by omega
    subst Gn;have Ka:X.length=k:=by
     have:=congrArg List.length Ku.out;rw[List.length_map,List.length_map,List.length_take,<-HN.out]at this;omega
    have kT:X ≠ []:=by
     intro e;rw[e]at Ka;simp at Ka;exact GC.out (List.eq_nil_of_length_eq_zero (by rw[<-HN.out,<-Ka]))
    obtain⟨a9,c9,rfl⟩:=zN hX;have Gf:=fun w' h=>y6c (.slice a9 X.length c9) X W.heap.size w' h kT (by omega)
    have Ga:X.map RR.pl=PS.map PC.row:=by
     have:=Ku.out
     rwa [List.take_of_length_le (by rw[HN.out];exact zA)]at this
    obtain⟨a1,a2⟩:=(show Live wr w.heap.size 0 (.slice none 0 0) from M0.out.keep Hb);obtain⟨a3,a4⟩:=(show Live wr (w.heap.size+1) 0 (.int .i64 0) from M1.out.keep Hb);obtain⟨a5,a6⟩:=(show Live wr (w.heap.size+1) 1 (.int .i64 0) from M2.out.keep Hb);have GF:w.heap.size+1<W.heap.size:=M1.out.lt;have GE:=z7 Gf;have GD:=z7 Ga;have HX:=z7 hX;have GG:=z7 Ka;have Gx:=z7 kT;clear Gf Ga hX Ka kT
    go_wp2_with fail
    refine(GE.out _ HX.out).mono ?_;rintro e w2 ⟨rfl,X',k9,kU,Hd⟩;have Hf:=fun q hq=>(zf HX.out q hq).1
    have b1:=y3n a1 Hd (fun e=>by have:=Hf _ e;omega);have b2:=y3K a1 a2 Hd (fun e=>by have:=Hf _ e;omega);have b3:=y3n a3 Hd (fun e=>by have:=Hf _ e;omega);have b4:=y3K a3 a4 Hd (fun e=>by have:=Hf _ e;omega);have b5:=y3n a5 Hd (fun e=>by have:=Hf _ e;omega);have b6:=y3K a5 a6 Hd (fun e=>by have:=Hf _ e;omega);clear a1 a2 a3 a4 a5 a6;have gJ:=z7 k9;have gd:=z7 kU;have KZ:=z7 Hd;have gT:=z7 Hf;clear k9 kU Hd Hf
    go_wp2_with fail
    refine bodyPost_ret (v:=.tuple #[.agg #[.slice a9 X.length c9],.agg #[.int .i64 0,.int .i64 0]]) (by simp[results,results329,go_sem,b1,b2,b3,b4,b5,b6]) rfl ?_;have Gb:∀q,(Value.slice a9 X.length c9).ownBlock=some q->W.heap.size<=q:=gT.out;have k9:=gJ.out;have kU:=gd.out;have Hd:=KZ.out;have kR:Below W.heap.size W w2:=Hb.grown Hd Hb.size Gb;have Gv:Below w.heap.size w w2:=kZ.out.trans (kR.mono kZ.out.size);refine⟨.slice a9 X.length c9,X',rfl,?_,?_,k9.2,?_,((Gv.setCell (zA) _).setCell (Nat.le_succ _) _).setCell (Nat.le_succ _) _⟩
    . exact zd (za kU fun q hq=>by
       have:=Gb q hq;rw[Below.heap_setCell _ _ _ _ (by simp;omega),Below.heap_setCell _ _ _ _ (by simp;omega),Below.heap_setCell _ _ _ _ (by simp;omega)]) kZ.out.size
    . rw[<-GD.out];exact k9.1.map _
    . intro r hr
      have h0:=yCd (Kt.out r (k9.1.mem_iff.1 hr)) Hd HX.out (by decide);refine h0.blk fun q cur hq=>?_
      have hA:=Gz.out;have e0:q≠w.heap.size:=fun e=>by
       have:=(kR.block w.heap.size M0.out.lt).trans hA.1;rw[e,this]at hq;simp at hq
      have e1:q≠w.heap.size+1:=fun e=>by
       have:=(kR.block (w.heap.size+1) M1.out.lt).trans hA.2;rw[e,this]at hq;simp at hq
      rw[Below.heap_setCell _ _ _ _ e1,Below.heap_setCell _ _ _ _ e1,Below.heap_setCell _ _ _ _ e0]
def RP.Good(r:RP):Prop:=0<=r.fr/\1<=r.ct/\r.fr+r.ct<=1048576/\0<=r.tq/\r.tq+r.ct<=2097152/\∀l,r.sg=some l->(l.length:Int)=r.ct
def RP.sign(r:RP)(c:Int):Int:=match r.sg with|some l=>l.getD (c-r.fr).toNat 0|none=>r.tq+(c-r.fr)
def RP.pairs(r:RP):List (Int×Int):=(List.range r.ct.toNat).map fun(i:Nat)=>(r.fr+(i:Int),r.sign (r.fr+(i:Int)))
def pairsM(X:List RP):List (Int×Int):=X.flatMap RP.pairs
def sizeM(X:List RP):Int:=(X.map RP.ct).sum
theorem y3U(r:RP)(X:List RP):sizeM (r::X)=r.ct+sizeM X:=by simp[sizeM]
theorem y4Q(X:List RP)(h:∀r∈X,r.Good):0<=sizeM X/\sizeM X<=X.length*1048576:=by
 induction X with
 | nil=>simp[sizeM]
 | cons r X ih=>
  have h1:=h r (by simp);have h2:=ih (fun q hq=>h q (by simp[hq]));rw[y3U,List.length_cons];obtain⟨a,b,c,_⟩:=h1;omega
theorem y1U{w:World}{B:Nat}{v:Value}{X:List RR}(h:OwnR w B v X)(k:Nat)(r:RR)(hk:X[k]?=some r):
 ∃g cap,v=.slice (some ⟨g,0,none⟩) X.length cap/\w.cell? ⟨g,k*4,none⟩=some (.int .i64 r.fr)/\w.cell? ⟨g,k*4+1,none⟩=some (.int .i64 r.ct)/\w.cell? ⟨g,k*4+2,none⟩=some (.int .i32 r.tq)/\w.cell? ⟨g,k*4+3,none⟩=some r.sv:=by
 have H5:=(List.getElem?_eq_some_iff.1 hk).1;obtain⟨g,cap,rfl,_⟩:=y1F h (by omega);refine⟨g,cap,rfl,?_,?_,?_,?_⟩
 . rw[World.ownsRow.cellAt h (k*4) (by omega)];exact(y1x X k r hk 0 (by omega))
 . rw[World.ownsRow.cellAt h (k*4+1) (by omega)];exact(y1x X k r hk 1 (by omega))
 . rw[World.ownsRow.cellAt h (k*4+2) (by omega)];exact(y1x X k r hk 2 (by omega))
 . rw[World.ownsRow.cellAt h (k*4+3) (by omega)];exact(y1x X k r hk 3 (by omega))
theorem yB2(v:Value)(X:List RR)(B:Nat)(w:World)(hX:OwnR w B v X)(hG:∀r∈X,r.pl.Good)(hl:X.length<=1000):
 Calls prog 334 #[.agg #[v]] w fun e w'=>e=.returned (.int .i64 (sizeM (X.map RR.pl)))/\Below w.heap.size w w':=by
 obtain⟨R,hR⟩:∃R,R=sizeM (X.map RR.pl):=⟨_,rfl⟩;rw[<-hR];obtain⟨av,cv,rfl⟩:=zN hX;obtain⟨n,hn⟩:∃n,n=X.length:=⟨_,rfl⟩;have H7:∀k,0<=sizeM ((X.drop k).map RR.pl)/\sizeM ((X.drop k).map RR.pl)<=1048576000:=fun k=>by
  have:=y4Q ((X.drop k).map RR.pl) (fun r hr=>by
   obtain⟨q,hq,rfl⟩:=List.mem_map.1 hr;exact hG q (List.mem_of_mem_drop hq))
  rw[List.length_map,List.length_drop]at this;omega
 have Hd:=H7 0;rw[List.drop_zero,<-hR]at Hd;rw[<-hn]at hl ⊢;have HR:=z7 hR;have HX:=z7 hX;have HG:=z7 hG;have HN:=z7 hn;have Hg:=z7 H7;clear hR hX hG hn H7
 go_enter func334,ntmps334
 go_wp2_with fail
 obtain⟨W,hW⟩:∃W,W=w.alloc (.cells #[.slice av n cv] 228):=⟨_,rfl⟩;rw[<-hW];have H9:Below w.heap.size w W:=by rw[hW];exact bal (z8) _
 have t0:W.cell? ⟨w.heap.size,0,none⟩=some (.slice av n cv):=by rw[hW];go_simp
 clear hW;have H8:=z7 H9;clear H9
 go_loopw [3,9] (fun s i wr=>∃(k:Nat) (a:Int),k<=n/\i=.int .i64 (k:Int)/\s=.int .i64 a/\0<=a/\a<=1048576000/\Hid (R=a+sizeM ((X.drop k).map RR.pl))/\Below W.heap.size W wr) (fun _ i _=>n-(intOf i).toNat)
 case atStart=>exact⟨0,0,zD,rfl,rfl,by omega,by omega,by show R=_;rw[HR.out];simp,z8⟩
 case round=>
  obtain⟨k,a,hk,rfl,rfl,Hk,Hj,H6,H5⟩:=hrel;by_cases Hb:k<n
  . obtain⟨r,hr⟩:=zM X k (by rw[<-HN.out];exact Hb)
    obtain⟨g,cap,he,c0,c1,c2,c3⟩:=y1U (zK (zK HX.out H8.out) H5) k r hr;simp only[Value.slice.injEq]at he;obtain⟨rfl,_,rfl⟩:=he;have Hf:=HG.out r (List.mem_of_getElem? hr);obtain⟨g0,g1,g2,_⟩:=Hf;have hd:=drop_at X k (List.getElem?_eq_some_iff.1 hr).1;rw[(List.getElem?_eq_some_iff.1 hr).2]at hd;have e1:=H6.out;rw[hd,List.map_cons,y3U]at e1;have Hh:=Hg.out (k+1);have He:Hid (R=(a+r.pl.ct)+sizeM ((X.drop (k+1)).map RR.pl)):=by show R=_;omega
    have g1':1<=r.ct:=g1;have Hi:a+r.ct<=1048576000:=by
     have:r.pl.ct=r.ct:=rfl;omega
    have Ha:IntKind.i64.wrap (a+r.ct)=a+r.ct:=by rw[y04]<;>omega
    obtain⟨rf,rc,rt,ra,rl,rp,rs⟩:=r;simp only[RR.sv,RR.pl]at *;clear hr hd e1 H6
    go_wp2_with fail
    go_roundw
    case rel=>exact⟨k+1,a+rc,by omega,by go_num,by first|rfl|rw[Ha],by omega,by omega,He,bal H5 _⟩
    case measure=>simp[intOf];omega
  . have Hc:k=n:=by omega
    subst Hc;have e1:Hid (R=a):=by
     show R=a;rw[H6.out,List.drop_of_length_le (by rw[HN.out];exact zA)];simp[sizeM]
    go_wp2_with fail
    go_ret
    exact⟨by rw[e1.out];rfl,H8.out.trans (H5.mono H8.out.size)⟩
theorem yBf:(Tryz.prog.info? 296).map (fun i=>(i.zero,i.size,i.bytes))=some (some (.agg #[.int .i64 0,.int .i32 0]),2,16):=by kernel_rfl
def y1Y(l:List (Int×Int)):List Value:=l.flatMap fun p=>[.int .i64 p.1,.int .i32 p.2]
theorem y5y(X Y:List (Int×Int)):y1Y (X++Y)=y1Y X++y1Y Y:=by simp[y1Y]
theorem y6N(X:List (Int×Int))(i:Nat)(r:Int×Int)(h:X[i]?=some r)(j:Nat)(hj:j<2):(y1Y X)[i*2+j]? = [Value.int .i64 r.1,.int .i32 r.2][j]?:=by
 induction X generalizing i with
 | nil=>simp at h
 | cons x X ih=>
  rw[y1Y,List.flatMap_cons,<-y1Y];cases i with
  | zero=>
   simp only[List.getElem?_cons_zero,Option.some.injEq]at h;subst h;rw[List.getElem?_append_left (by simp;omega)];simp
  | succ i=>
   rw[List.getElem?_append_right (by simp;omega)];rw[show(i+1)*2+j - [Value.int .i64 x.1,.int .i32 x.2].length=i*2+j from by simp;omega];exact ih i (by simpa using h)
def OwnP(w:World)(B:Nat)(v:Value)(l:List (Int×Int)):Prop:=w.ownsRow B 296 2 v l.length (y1Y l)
theorem yEe(r:RP)(h:1<=r.ct):(r.pairs.length:Int)=r.ct:=by unfold RP.pairs;simp;omega
theorem y3X(X:List RP)(h:∀r∈X,r.Good):((pairsM X).length:Int)=sizeM X:=by
 induction X with
 | nil=>rfl
 | cons r X ih=>
  have h1:=yEe r (h r (by simp)).2.1;have h2:=ih (fun q hq=>h q (by simp[hq]));unfold pairsM at *;rw[List.flatMap_cons,zH,y3U];omega
def RP.tail(r:RP)(i:Nat):List (Int×Int):=r.pairs.drop i
theorem RP.tail_step(r:RP)(i:Nat)(h:(i:Int)<r.ct):r.tail i=(r.fr+i,r.sign (r.fr+i))::r.tail (i+1):=by
 have h':i<r.ct.toNat:=by omega
 have h1:r.pairs[i]?=some (r.fr+(i:Int),r.sign (r.fr+(i:Int))):=by unfold RP.pairs;simp[h']
 obtain⟨hl,h2⟩:=List.getElem?_eq_some_iff.1 h1;unfold RP.tail;rw[drop_at _ i hl,h2]
theorem RP.tail_end(r:RP)(i:Nat)(h:r.ct<=i):r.tail i = []:=by
 unfold RP.tail;apply List.drop_of_length_le;unfold RP.pairs;simp;omega
def y5v(X:List RP)(B:Nat)(w:World)(e:Ending)(w':World):Prop:=∃v,e=.returned v/\OwnP w' B v (pairsM X)/\Below w.heap.size w w'
theorem yEf(v:Value)(X:List RR)(B:Nat)(w:World)(hX:OwnR w B v X)(hG:∀r∈X,r.pl.Good)(hO:∀r∈X,r.Ok w)(hl:X.length<=1000):
 Calls prog 277 #[.agg #[v]] w (y5v (X.map RR.pl) w.heap.size w):=by
 obtain⟨R,hR⟩:∃R,R=pairsM (X.map RR.pl):=⟨_,rfl⟩;have Hw:∀r∈X.map RR.pl,r.Good:=fun r hr=>by
  obtain⟨q,hq,rfl⟩:=List.mem_map.1 hr;exact hG q hq
 have k9:=y4Q _ Hw;have He:=y3X _ Hw;rw[<-hR]at He;rw[List.length_map]at k9;have k1:=fun w hX=>yB2 v X B w hX hG hl
 rw[<-He]at k1;have Ka:R.length<=1048576000:=by omega
 have Hj:∀e w',(∃v,e=.returned v/\OwnP w' w.heap.size v R/\Below w.heap.size w w')->y5v (X.map RR.pl) w.heap.size w e w':=by rw[hR];exact fun _ _ h=>h
 obtain⟨av,cv,rfl⟩:=zN hX;obtain⟨n,hn⟩:∃n,n=X.length:=⟨_,rfl⟩;obtain⟨m,hm⟩:∃m,m=R.length:=⟨_,rfl⟩;obtain⟨i0,hi,kP,kO,kM⟩:=info_parts yBf;rw[<-hn]at hl k1 ⊢;rw[<-hm]at Ka k1;have HR:=z7 hR;have HX:=z7 hX;have HG:=z7 hG;have HN:=z7 hn;have K1:=z7 k1;have HO:=z7 hO;have HM:=z7 hm;have Hz:=z7 Hj;clear hR hX hG hn k1 hO hm Hj;clear Hw k9 He
 go_enter func277,ntmps277
 go_wp2_with fail
 obtain⟨W,hW⟩:∃W,W=w.alloc (.cells #[.slice av n cv] 228):=⟨_,rfl⟩;rw[<-hW];have Hp:Below w.heap.size w W:=by rw[hW];exact bal (z8) _
 have t0:W.cell? ⟨w.heap.size,0,none⟩=some (.slice av n cv):=by rw[hW];go_simp
 clear hW;refine(K1.out _ (by rw[HN.out];exact zK HX.out Hp)).mono ?_;rintro e w1 ⟨rfl,kF⟩;have Hu:=bt Hp kF;have t1:=kc kF t0;have Km:=z7 Hp;clear Hp
 go_wp2_with (first
  | (refine wpList_make_own _ rfl _ _ 293 rfl _ 296 i0 (.agg #[.int .i64 0,.int .i32 0]) 2 underlying293 hi kP kO .i64 .i64 (m:Int) m rfl rfl rfl (by rw[kM];omega) (by unfold maxLen;omega) (zA) ?_;intro W1 H5 H9;have t2:=y3n t1 H9 (by simp)))
 have Hc:Below w1.heap.size w1 W1:=(z8).grown H9 (zA) (by intro k hk;cases hk);have Hd:OwnP W1 w1.heap.size (.slice (some ⟨w1.heap.size,0,none⟩) 0 m) []:=H5;clear H5 H9 t0 t1
 go_loopw [3,13] (fun s i wr=>∃(k:Nat) (a:List (Int×Int)),k<=n/\i=.int .i64 (k:Int)/\OwnP wr w1.heap.size s a/\Hid (R=a++pairsM ((X.drop k).map RR.pl))/\Below w1.heap.size w1 wr) (fun _ i _=>n-(intOf i).toNat)
 case atStart=>exact⟨0,[],zD,rfl,Hd,HR.out,Hc⟩
 case round=>
  obtain⟨k,a,hk,rfl,H5,Hv,H6⟩:=hrel;clear Hd Hc;have Ho:Below w.heap.size w wr:=Hu.trans (H6.mono Hu.size);by_cases kT:k<n
  . obtain⟨r,hr⟩:=zM X k (by rw[<-HN.out];exact kT)
    obtain⟨g,cap,he,c0,c1,c2,c3⟩:=y1U (zK HX.out Ho) k r hr;simp only[Value.slice.injEq]at he;obtain⟨rfl,_,rfl⟩:=he;have Kb:=HG.out r (List.mem_of_getElem? hr);have kK:=(HO.out r (List.mem_of_getElem? hr)).keep Ho;obtain⟨g0,g1,g2,g3,g4,g5⟩:=Kb;have hd:=drop_at X k (List.getElem?_eq_some_iff.1 hr).1;rw[(List.getElem?_eq_some_iff.1 hr).2]at hd;have e1:=Hv.out;rw[hd,List.map_cons,pairsM,List.flatMap_cons,<-pairsM]at e1;have kx:∀(c:Int) w',r.Ok w'->r.fr<=c->c<r.fin->Calls prog 336 #[.agg r.enc.toArray,.int .i64 c] w' fun e w''=>e=.returned (.int .i32 (r.pl.sign c))/\Below w'.heap.size w' w'':=fun c w' Hr h0 h1=>
     y54 r c w' Hr h0 h1 g0 (by have:r.fr+r.ct<=1048576:=g2;unfold RR.fin;omega) g3 (by have:r.tq+r.ct<=2097152:=g4;omega) g5
    have hT:=fun(i:Nat) (h:(i:Int)<r.ct)=>RP.tail_step r.pl i h
    have kJ:=fun(i:Nat) (h:r.ct<=i)=>RP.tail_end r.pl i h
    have e2:R=a++(r.pl.tail 0++pairsM ((X.drop (k+1)).map RR.pl)):=e1;obtain⟨rest,H8⟩:∃rest,rest=pairsM ((X.drop (k+1)).map RR.pl):=⟨_,rfl⟩;rw[<-H8]at e2;have Hm:=z7 H8;clear H8;obtain⟨rf,rc,rt,ra,rl,rp,rs⟩:=r;simp only[RR.sv,RR.pl,RR.enc,RR.fin]at *;obtain⟨f,rfl⟩:=Int.eq_ofNat_of_zero_le g0;have Hk:=fun w=>y5f f rc rt (.slice ra rl rp) w (by omega) (by omega)
    have kH:a.length<=m:=by rw[HM.out,e2];simp
    have E2:=z7 e2;have Ke:=z7 kx;have HT:=z7 hT;have Kd:=z7 kJ;have HE:=z7 Hk;have Kg:=z7 kK;have Kn:=z7 kH;clear e2 kx hT kJ Hk kK kH;clear hr hd e1 Hv g5
    go_wp2_with fail
    have kD:=heap_alloc_new wr (.cells #[.int .i64 f,.int .i64 rc,.int .i32 rt,.slice ra rl rp] 350);have kW:Below w1.heap.size w1 (wr.alloc (.cells #[.int .i64 f,.int .i64 rc,.int .i32 rt,.slice ra rl rp] 350)):=H6.alloc H6.size _;have kR:OwnP (wr.alloc (.cells #[.int .i64 f,.int .i64 rc,.int .i32 rt,.slice ra rl rp] 350)) w1.heap.size u3 a:=zK H5 ((z8).alloc (zA) _);have ky:=Kg.out.keep ((Below.refl wr.heap.size wr).alloc (zA) (.cells #[.int .i64 f,.int .i64 rc,.int .i32 rt,.slice ra rl rp] 350));generalize wr.alloc (.cells #[.int .i64 f,.int .i64 rc,.int .i32 rt,.slice ra rl rp] 350)=Wk at *;generalize kX:wr.heap.size=b8 at *;clear kX H5 H6 c0 c1 c2 c3 Ho;have Kk:=z7 kD;have Kf:=z7 ky;clear kD ky
    go_loopw [3,6] (fun s cv wq=>∃(c:Nat) (a':List (Int×Int)),(c:Int)<=rc/\cv=.int .i64 ((f:Int)+(c:Int))/\OwnP wq w1.heap.size s a'/\Hid (R=a'++(RP.tail ⟨f,rc,rt,rs⟩ c++rest))/\Below w1.heap.size w1 wq /\
     Hid (wq.heap[b8]?=some (.cells #[.int .i64 f,.int .i64 rc,.int .i32 rt,.slice ra rl rp] 350 (0,0)))/\Hid (RR.Ok wq ⟨f,rc,rt,ra,rl,rp,rs⟩)) (fun _ cv _=>(f+rc-intOf cv).toNat)
    case atStart=>exact⟨0,a,by omega,by go_num,kR,E2.out,kW,Kk.out,Kf.out⟩
    case round=>
     obtain⟨c,a',hc,rfl,H5,Hq,H6,Hf,kQ⟩:=hrel;have d0:wr.cell? ⟨b8,0,none⟩=some (.int .i64 f):=by rw[cell_of_row _ _ _ _ _ _ Hf.out];rfl
     have d1:wr.cell? ⟨b8,1,none⟩=some (.int .i64 rc):=by rw[cell_of_row _ _ _ _ _ _ Hf.out];rfl
     have d2:wr.cell? ⟨b8,2,none⟩=some (.int .i32 rt):=by rw[cell_of_row _ _ _ _ _ _ Hf.out];rfl
     have d3:wr.cell? ⟨b8,3,none⟩=some (.slice ra rl rp):=by rw[cell_of_row _ _ _ _ _ _ Hf.out];rfl
     by_cases kV:(c:Int)<rc
     . have e3:=Hq.out
       rw[HT.out c kV,List.cons_append]at e3;have hx:=fun w' Hr=>Ke.out ((f:Int)+c) w' Hr (by omega) (by omega)
       have K9:a'.length<m:=by rw[HM.out,e3];simp
       generalize RP.sign ⟨f,rc,rt,rs⟩ ((f:Int)+c)=q at *;have E3:=z7 e3;have Kc:=z7 hx;have Hn:=z7 H5;clear e3 hx H5;clear Hq
       go_wp2_with (first
        | (go_at_call 335;refine(HE.out _).mono ?_;rintro e wa ⟨rfl,H7⟩;have d0':=kc H7 d0;have d1':=kc H7 d1;have d2':=kc H7 d2;have d3':=kc H7 d3;have Hb:=kQ.out.keep H7)
        | (go_at_call 336;refine(Kc.out _ Hb).mono ?_;rintro e wb ⟨rfl,Hg⟩;have Hc:w1.heap.size<=wb.heap.size:=zE (zE H6.size H7.size) Hg.size)
        | (at_builtin;(refine zR rfl _ _ 293 296 rfl underlying293 (.agg #[.int .i64 0,.int .i32 0]) 2 16 yBf rfl (by decide) wb w1.heap.size u3 a'.length (y1Y a') rfl (zK (zK Hn.out H7) Hg) #[.int .i64 ((f:Int)+c),.int .i32 q] rfl (by simp[Value.oneCell']) rfl (by omega) (by omega) Hc ?_;intro v' w4 kI kZ Ht)))
       have Hs:=zK (zK Hn.out H7) Hg;have Hi:RR.Ok w4 ⟨f,rc,rt,ra,rl,rp,rs⟩:=(Hb.keep Hg).blk fun k cur hk=>Ht k (Array.getElem?_eq_some_iff.1 hk).1 (fun e=>(y0f Hs hk (by decide)) e.symm)
       have Ha:wb.heap[b8]?=some (.cells #[.int .i64 f,.int .i64 rc,.int .i32 rt,.slice ra rl rp] 350 (0,0)):=by
        have kz:b8<wr.heap.size:=(Array.getElem?_eq_some_iff.1 Hf.out).1;exact(Hg.block _ (Nat.lt_of_lt_of_le kz H7.size)).trans ((H7.block _ kz).trans Hf.out)
       have Hl:=(Ht b8 (Array.getElem?_eq_some_iff.1 Ha).1 (fun e=>(y0f Hs Ha (by decide)) e.symm)).trans Ha;have Hh:OwnP w4 w1.heap.size v' (a' ++ [((f:Int)+c,q)]):=by unfold OwnP;rw[y5y,zH];exact kI
       have e4:R=(a' ++ [((f:Int)+c,q)])++(RP.tail ⟨f,rc,rt,rs⟩ (c+1)++rest):=by rw[E3.out,List.append_assoc];rfl
       have kY:Below w1.heap.size w1 w4:=(H6.trans ((H7.trans (Hg.mono H7.size)).mono H6.size)).trans kZ;have Hy:=z7 Hi;have HQ:=z7 Hl;have E4:=z7 e4;have Kj:=z7 Ha;have Kh:=z7 Hb;clear Hi Hl e4 Ha Hb;clear Ht kI Hs;go_roundw
       case rel=>exact⟨c+1,_,by omega,by first|rfl|go_num|(congr 1;omega),Hh,E4.out,kY,HQ.out,Hy.out⟩
       case measure=>simp[intOf];omega
     . have kC:rc=(c:Int):=by omega
       have e3:=Hq.out;rw[Kd.out c (by omega),List.nil_append]at e3;have E3:=z7 e3;have Kl:=z7 kC;clear e3 kC;clear Hq
       go_wp2_with (go_at_call 335;refine(HE.out _).mono ?_;rintro e wa ⟨rfl,H7⟩)
       go_roundw
       case rel=>exact⟨k+1,a',by omega,by go_num,zK H5 H7,by show R=_;rw[<-Hm.out];exact E3.out,H6.trans (H7.mono H6.size)⟩
       case measure=>simp[intOf];omega
  . have kU:k=n:=by omega
    subst kU;have e1:R=a:=by
     rw[Hv.out,List.drop_of_length_le (by rw[HN.out];exact zA)];simp[pairsM]
    have kA:OwnP wr w.heap.size u3 R:=by rw[e1];exact zd H5 Hu.size
    have Ki:=z7 kA;clear kA;clear e1
    go_wp2_with fail
    go_ret
    exact Hz.out _ _ ⟨_,rfl,Ki.out,Ho⟩
