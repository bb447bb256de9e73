/- Rv -/
import Derived.Test.YtagjkmkmphamoaaGreatDoorPRu
set_option linter.all false
set_option maxHeartbeats 4000000
namespace Go.Proofs.YtagjkmkmphamoaaGreatDoor
open Go.RowKit
theorem prow_any(p:PC)(w:World)(hT:TW w)(hp:p.Right)(hz:p.tx.size≠0→p.tq=0∧p.ct=0):Calls Tryz.prog 204 #[p.val] w (RowPost p w):=by
 obtain⟨fr,tq,ct,tx⟩:=p;by_cases h0:tx.size=0
 · have:tx=ByteArray.empty:=by
    obtain⟨⟨l⟩⟩:=tx;cases l with
    | nil=>rfl
    | cons a l=>simp[ByteArray.size]at h0
   subst this;exact prow_seq fr tq ct w hp
 · obtain⟨h1,h2⟩:=hz h0
   simp only at h1 h2;subst h1 h2;exact vv2 fr tx w hT h0 hp
def pcells(l:List PC):List Value:=l.flatMap fun p=>[.int .i64 p.fr,.int .i32 p.tq,.int .i64 p.ct,.string p.tx]
theorem vv8(X:List PC)(i:Nat)(r:PC)(h:X[i]?=some r)(j:Nat)(hj:j<4):(pcells X)[i*4+j]? = [Value.int .i64 r.fr,.int .i32 r.tq,.int .i64 r.ct,.string r.tx][j]?:=by
 induction X generalizing i with
 | nil=>simp at h
 | cons x X ih=>
  rw[pcells,List.flatMap_cons,←pcells];cases i with
  | zero=>
   simp only[List.getElem?_cons_zero,Option.some.injEq]at h;subst h;rw[List.getElem?_append_left (by simp;omega)];simp
  | succ i=>
   rw[List.getElem?_append_right (by simp;omega)];rw[show(i+1)*4+j - [Value.int .i64 x.fr,.int .i32 x.tq,.int .i64 x.ct,.string x.tx].length=i*4+j from by simp;omega];exact ih i (by simpa using h)
theorem vt1(p:PC)(hp:p.Right):0≤p.row.fr∧1≤p.row.ct∧p.row.fr+p.row.ct≤1048576:=by
 unfold PC.Right at hp;unfold PC.row;split
 · rename_i h
   rw[if_pos h]at hp;have:=hp.1;simp[insideB]at this;simp only;omega
 · rename_i h
   rw[if_neg h]at hp;obtain⟨_,n,hn,hi⟩:=hp;have:=jn0 _ _ hn;simp[insideB]at hi;simp only;omega
def RP.has(r:RP)(c:Int):Prop:=r.fr≤c∧c<r.fr+r.ct
def bcellsB(l:List Bool):List Value:=l.map Value.bool
theorem infoBool:(Tryz.prog.info? 4).map (fun i=>(i.zero,i.size,i.bytes))=some (some (.bool false),1,1):=by kernel_rfl
theorem kn1:(Tryz.prog.info? 235).map (fun i=>(i.zero,i.size,i.bytes))=some (some (.agg #[.int .i64 0,.int .i64 0,.int .i32 0,.slice none 0 0]),4,48):=by kernel_rfl
def NewPost(PS:List PC)(B:Nat)(w:World)(e:Ending)(w':World):Prop:=
 ∃v X,e=.returned (.tuple #[.agg #[v],.agg #[.int .i64 0,.int .i64 0]])∧OwnR w' B v X∧(X.map RR.pl).Perm (PS.map PC.row)∧(X.Pairwise fun a b=>a.fr≤b.fr)∧(∀r∈X,r.Ok w')∧Below w.heap.size w w'
theorem jd0{w:World}{B:Nat}{e e':TypeId}{s n b:Nat}{v:Value}{cs:List Value}{cur:Array Value}{fr:Nat×Nat}(h:w.ownsRow B e s v n cs)(hb:w.heap[b]?=some (.cells cur e' fr))(hne:e≠e'):v.ownBlock≠some b:=by
 intro hk;rcases h.2 with⟨rfl,_⟩|⟨g,cap,cur,rfl,_,hh,_⟩
 · simp[Value.ownBlock]at hk
 · simp only[Value.ownBlock,Option.some.injEq]at hk
   subst hk;rw[hh]at hb;simp at hb;exact hne hb.2.1
theorem jb4{w:World}{B:Nat}{e:TypeId}{s n:Nat}{v:Value}{cs:List Value}(h:w.ownsRow B e s v n cs):∃a c,v=.slice a n c:=by
 rcases h.2 with⟨rfl,rfl⟩|⟨g,cap,cur,rfl,_⟩
 · exact⟨_,_,rfl⟩
 · exact⟨_,_,rfl⟩
theorem jc9{w:World}{B:Nat}{e:TypeId}{s n:Nat}{v:Value}{cs:List Value}(h:w.ownsRow B e s v n cs)(hn:n≠0):∃g c,v=.slice (some ⟨g,0,none⟩) n c∧B≤g:=by
 rcases h.2 with⟨_,h0⟩|⟨g,cap,cur,rfl,hb,_⟩
 · exact absurd h0 hn
 · exact⟨_,_,rfl,hb⟩
theorem bcB_at(l:List Bool)(j:Nat)(b:Bool)(h:l[j]?=some b):(bcellsB l)[j]?=some (.bool b):=by simp[bcellsB,h]
theorem qv8(l:List Bool)(j:Nat)(b:Bool):(bcellsB l).set j (.bool b)=bcellsB (l.set j b):=by simp[bcellsB,List.map_set]
set_option maxRecDepth 100000 in
theorem vz5(v:Value)(PS:List PC)(w:World)(hT:TW w)(hrow:Row w v PS.length (pcells PS))(hne:PS ≠ [])(hlen:PS.length≤1000)(hR:∀p∈PS,p.Right∧(p.tx.size≠0→p.tq=0∧p.ct=0))
 (hdis:PS.Pairwise fun p q=>∀c,¬(p.row.has c∧q.row.has c)):Calls Tryz.prog 169 #[v] w (NewPost PS w.heap.size w):=by
 obtain⟨av,cap,rfl,hc⟩:=hrow;obtain⟨n,hn⟩:∃n,n=PS.length:=⟨_,rfl⟩;rw[←hn]at hlen ⊢;have HN:=Lib.hid hn;have HC:=Lib.hid hc;have HR:=Lib.hid hR;have HD:=Lib.hid hdis;have HNE:=Lib.hid hne;clear hn hc hR hdis hne
 go_enter Tryz.func169,Tryz.ntmps169
 go_wp2_with fail
 obtain⟨W,hW⟩:∃W,W=(w.alloc (.cells #[.slice none 0 0] 175)).alloc (.cells #[.int .i64 0,.int .i64 0] 54):=⟨_,rfl⟩;rw[←hW];have m0:Live W w.heap.size 0 (.slice none 0 0):=by rw[hW];exact(Live.fresh w _ _ 0 _ rfl).alloc _
 have hs1:(w.alloc (.cells #[.slice none 0 0] 175)).heap.size=w.heap.size+1:=World.size_alloc _ _;have m1:Live W (w.heap.size+1) 0 (.int .i64 0):=by rw[hW,←hs1];exact Live.fresh _ _ _ 0 _ rfl
 have m2:Live W (w.heap.size+1) 1 (.int .i64 0):=by rw[hW,←hs1];exact Live.fresh _ _ _ 1 _ rfl
 have hTW:TW W:=by rw[hW];exact(hT.alloc _).alloc _
 have hbW:Below w.heap.size w W:=by rw[hW];exact bal (bal (Below.refl _ _) _) _
 have hTB:W.heap[w.heap.size]?=some (.cells #[.slice none 0 0] 175 (0,0))∧W.heap[w.heap.size+1]?=some (.cells #[.int .i64 0,.int .i64 0] 54 (0,0)):=by
  rw[hW];refine⟨(heap_alloc_old _ _ (by rw[hs1];omega)).trans (heap_alloc_new _ _),?_⟩;rw[←hs1];exact heap_alloc_new _ _
 clear hW hs1 hT;have HTB:=Lib.hid hTB;have M0:=Lib.hid m0;have M1:=Lib.hid m1;have M2:=Lib.hid m2;have HTW:=Lib.hid hTW;have HBW:=Lib.hid hbW;clear hTB m0 m1 m2 hTW hbW
 go_loopw [4,5,14] (fun rv sv i wr=>∃(k:Nat) (X:List RR) (sb:List Bool),k≤n∧i=.int .i64 (k:Int)∧OwnR wr W.heap.size rv X∧Hid (X.map RR.pl=(PS.take k).map PC.row)∧Hid (∀r∈X,r.Ok wr) ∧
  wr.ownsRow W.heap.size 4 1 sv sb.length (bcellsB sb)∧sb.length≤1048576∧Hid (∀c:Nat,sb[c]?=some true→∃p∈PS.take k,p.row.has c)∧Below W.heap.size W wr) (fun _ _ i _=>n-(intOf i).toNat)
 case atStart=>exact⟨0,[],[],Nat.zero_le _,rfl,World.ownsRow_nil _ _ _ _,rfl,by intro r hr;simp at hr,World.ownsRow_nil _ _ _ _,by simp,by intro c h;simp at h,Below.refl _ _⟩
 case round=>
  obtain⟨k,X,sb,hk,rfl,hX,hXm,hXok,hsb,hsbl,hcov,hbel⟩:=hrel;have hTr:=HTW.out.bel hbel;by_cases hlt:k<n
  · obtain⟨p,hp⟩:=jb6 PS k (by rw[←HN.out];exact hlt)
    obtain⟨hpr,hpz⟩:=HR.out p (List.mem_of_getElem? hp);obtain⟨b0,b1,b2⟩:=vt1 p hpr;have ha:=fun j (hj:j<4)=>HC.out (k*4+j) _ (by rw[vv8 PS k p hp j hj,List.getElem?_eq_getElem (by simpa using hj)])
    obtain⟨g,o,rfl,a0⟩:=ha 0 (by omega);have hadr:∀j (hj:j<4),w.cell? ⟨g,o+(k*4+j),none⟩=some ([Value.int .i64 p.fr,.int .i32 p.tq,.int .i64 p.ct,.string p.tx][j]):=fun j hj=>by
     obtain⟨g',o',e,h⟩:=ha j hj;simp only[Option.some.injEq,Addr.mk.injEq]at e;obtain⟨rfl,rfl,_⟩:=e;exact h
    have c0:wr.cell? ⟨g,o+k*4,none⟩=some (.int .i64 p.fr):=kc hbel (kc HBW.out (hadr 0 (by omega)));have c1:wr.cell? ⟨g,o+k*4+1,none⟩=some (.int .i32 p.tq):=kc hbel (kc HBW.out (hadr 1 (by omega)));have c2:wr.cell? ⟨g,o+k*4+2,none⟩=some (.int .i64 p.ct):=kc hbel (kc HBW.out (hadr 2 (by omega)));have c3:wr.cell? ⟨g,o+k*4+3,none⟩=some (.string p.tx):=kc hbel (kc HBW.out (hadr 3 (by omega)));have x1:=fun W hT=>prow_any p W hT hpr hpz
    have hdj:∀q∈PS.take k,∀c,¬(q.row.has c∧p.row.has c):=by
     intro q hq c;obtain⟨j,hj⟩:=List.getElem?_of_mem hq;rw[List.getElem?_take]at hj;split at hj
     · rename_i hjk
       obtain⟨hj1,hj2⟩:=List.getElem?_eq_some_iff.1 hj;obtain⟨hp1,hp2⟩:=List.getElem?_eq_some_iff.1 hp;have:=List.pairwise_iff_getElem.1 HD.out j k hj1 hp1 hjk c
       rwa [hj2,hp2]at this
     · cases hj
    have X1:=Lib.hid x1;have HDJ:=Lib.hid hdj;have HP:=Lib.hid hp;have HX:=Lib.hid hX;have HSB:=Lib.hid hsb;clear x1 hdj hp hX hsb;clear ha hadr a0;simp only[PC.val,pieceV]at X1
    go_wp2_with fail
    refine(X1.out _ (hTr.alloc _)).mono ?_;rintro e w1 ⟨r,rfl,hrp,hrok,hb1⟩;obtain⟨rf,rc,rt,ra,rl,rp,rs⟩:=r;simp only[RR.enc,RR.sv,RR.pl]at *;rw[←hrp]at b0 b1 b2;simp only at b0 b1 b2;obtain⟨f,rfl⟩:=Int.eq_ofNat_of_zero_le b0;have hXl:X.length≤1000:=by
     have:=congrArg List.length hXm.out;rw[List.length_map,List.length_map,List.length_take,←HN.out]at this;omega
    have hend:=fun w=>kn9 f rc rt (.slice ra rl rp) w (by omega) (by omega)
    have hbel1:Below W.heap.size W w1:=bt (bal hbel _) hb1;have hX1:OwnR w1 W.heap.size _ X:=jb2 (jb2 HX.out ((Below.refl _ _).alloc (Nat.le_refl _) _)) hb1;have hs1:=jb2 (jb2 HSB.out ((Below.refl _ _).alloc (Nat.le_refl _) _)) hb1;obtain⟨a5,c5,rfl⟩:=jb4 HSB.out;have hXok1:∀r∈X,r.Ok w1:=fun r hr=>((hXok.out r hr).keep ((Below.refl _ _).alloc (Nat.le_refl _) _)).keep hb1
    have HE:=Lib.hid hend;have HRP:=Lib.hid hrp;have HX1:=Lib.hid hX1;have HS1:=Lib.hid hs1;have HROK:=Lib.hid hrok;have HXOK1:=Lib.hid hXok1;clear hend hrp hX1 hs1 hrok hXok1;clear hb1 c0 c1 c2 c3
    go_wp2_with fail
    refine(HE.out _).mono ?_;rintro e w2 ⟨rfl,hb2⟩;have hblk:w2.heap[w1.heap.size]?=some (.cells #[.int .i64 f,.int .i64 rc,.int .i32 rt,.slice ra rl rp] 235 (0,0)):=(hb2.block _ (by simp)).trans (heap_alloc_new _ _);have hbA:Below w1.heap.size w1 w2:=bt ((Below.refl _ _).alloc (Nat.le_refl _) _) hb2;have hbel2:Below W.heap.size W w2:=bt hbel1 hbA;have hX2:OwnR w2 W.heap.size _ X:=jb2 HX1.out hbA;have hs2:=jb2 HS1.out hbA;have hXok2:∀r∈X,r.Ok w2:=fun r hr=>(HXOK1.out r hr).keep hbA
    have hrok2:=HROK.out.keep hbA;have HX2:=Lib.hid hX2;have HS2:=Lib.hid hs2;have HXOK2:=Lib.hid hXok2;have HROK2:=Lib.hid hrok2;have HBLK:=Lib.hid hblk;clear hX2 hs2 hXok2 hrok2 hblk;clear hb2 hbA;have q0:w2.cell? ⟨w1.heap.size,0,none⟩=some (.int .i64 f):=by rw[cell_of_row _ _ _ _ _ _ HBLK.out];rfl
    by_cases hgr:(sb.length:Int)<f+rc
    · obtain⟨m,hm⟩:∃m:Nat,(f:Int)+rc-(sb.length:Int)=(m:Int):=⟨((f:Int)+rc-(sb.length:Int)).toNat,by omega⟩
      have hn8':=jd0 HS2.out HBLK.out (by decide);have HN80:=Lib.hid hn8';clear hn8'
      go_wp2_with (at_builtin;(refine jw0 rfl _ _ 259 3 4 rfl .i64 Tryz.underlying259 Tryz.underlying3 (.bool false) 1 infoBool rfl rfl w2 W.heap.size (.slice a5 sb.length c5) sb.length (bcellsB sb) rfl HS2.out .i64 m rfl (by omega) (by unfold maxLen;omega) (by omega) hbel2.size ?_;intro sv w3 hs30 hg3;have q0':=kd0 q0 hg3 HN80.out))
      have hbel3:Below W.heap.size W w3:=hbel2.grown hg3 hbel2.size (fun q hq=>(jb7 HS2.out q hq).1);have hXk:OwnR w3 W.heap.size _ X:=qr7 HX2.out hg3 (fun q hq e=>kb4 HX2.out HS2.out (by decide) q hq e);have hbk:=(hg3.block _ (Array.getElem?_eq_some_iff.1 HBLK.out).1 (fun e=>HN80.out e.symm)).trans HBLK.out;have hXok3:∀r∈X,r.Ok w3:=fun r hr=>vh1 (HXOK2.out r hr) hg3 HS2.out (by decide)
      have hrok3:=vh1 HROK2.out hg3 HS2.out (by decide);obtain⟨sb1,hsb1⟩:∃sb1,sb1=sb++List.replicate m false:=⟨_,rfl⟩;obtain⟨sn,hsn⟩:∃sn,sn=sb1.length:=⟨_,rfl⟩;have hsnm:sn=sb.length+m:=by rw[hsn,hsb1];simp
      have hs3:w3.ownsRow W.heap.size 4 1 sv sn (bcellsB sb1):=by
       rw[hsnm,hsb1];have:bcellsB (sb++List.replicate m false)=bcellsB sb++List.replicate m (.bool false):=by simp[bcellsB]
       rw[this];exact hs30
      have hc3:∀c:Nat,sb1[c]?=some true→sb[c]?=some true:=by
       intro c h;rw[hsb1,List.getElem?_append]at h;split at h
       · exact h
       · rw[List.getElem?_replicate]at h
         split at h
         · simp at h
         · cases h
      have hfl:(f:Int)+rc≤sn:=by omega
      have hsn20:sn≤1048576:=by omega
      have HSN:=Lib.hid hsn;clear hsn;clear hs30 hg3 hsb1 hsnm hm hgr q0 q0';obtain⟨g5,cap5,rfl,hg5⟩:=jc9 hs3 (by omega);have hX3:OwnR w3 W.heap.size _ X:=hXk;have hneX:=kb4 hX3 hs3 (by decide);have hne8:=jd0 hs3 hbk (by decide);have HS3:=Lib.hid hs3;have HX3:=Lib.hid hX3;have HNX:=Lib.hid hneX;have HN8:=Lib.hid hne8;have HBK:=Lib.hid hbk;have HXO:=Lib.hid hXok3;have HRO:=Lib.hid hrok3;have HC3:=Lib.hid hc3;clear hX3 hneX hne8 hbk hXok3 hrok3 hc3;clear hs3 hXk
      go_loopw [11] (fun cv wq=>∃(c:Nat) (sq:List Bool),cv=.int .i64 (c:Int)∧f≤c∧(c:Int)≤f+rc∧wq.ownsRow W.heap.size 4 1 (.slice (some ⟨g5,0,none⟩) sn cap5) sn (bcellsB sq)∧Hid (sq.length=sn) ∧
       Hid (∀j:Nat,sq[j]?=some true→sb1[j]?=some true∨(f≤j∧j<c))∧w3.grownBy wq (some g5)) (fun cv _=>(f+rc-intOf cv).toNat)
      case atStart=>exact⟨f,sb1,rfl,Nat.le_refl _,by omega,HS3.out,HSN.out.symm,fun j h=>.inl h,xf5 _ _⟩
      case round=>
       obtain⟨c,sq,rfl,hc0,hcl,hsq,hsql,hsqc,hgq⟩:=hrel;have hbq:wr.heap[w1.heap.size]?=some (.cells #[.int .i64 f,.int .i64 rc,.int .i32 rt,.slice ra rl rp] 235 (0,0)):=(hgq.block _ (Array.getElem?_eq_some_iff.1 HBK.out).1 (fun e=>HN8.out e.symm)).trans HBK.out;have d0:wr.cell? ⟨w1.heap.size,0,none⟩=some (.int .i64 f):=by rw[cell_of_row _ _ _ _ _ _ hbq];rfl
       have d1:wr.cell? ⟨w1.heap.size,1,none⟩=some (.int .i64 rc):=by rw[cell_of_row _ _ _ _ _ _ hbq];rfl
       have d2:wr.cell? ⟨w1.heap.size,2,none⟩=some (.int .i32 rt):=by rw[cell_of_row _ _ _ _ _ _ hbq];rfl
       have d3:wr.cell? ⟨w1.heap.size,3,none⟩=some (.slice ra rl rp):=by rw[cell_of_row _ _ _ _ _ _ hbq];rfl
       by_cases hcc:(c:Int)<f+rc
       · have hcs:c<sn:=by omega
         have hfalse:sq[c]?=some false:=by
          have hl:c<sq.length:=by rw[hsql.out];exact hcs
          rw[List.getElem?_eq_getElem hl];cases hv:sq[c]with
          | false=>rfl
          | true=>
           exfalso
           rcases hsqc.out c (by rw[List.getElem?_eq_getElem hl,hv])with h|⟨_,h⟩
           · obtain⟨q,hq,hqc⟩:=hcov.out c (HC3.out c h)
             exact HDJ.out q hq c ⟨hqc,by rw[←HRP.out];exact⟨by show(f:Int)≤c;omega,hcc⟩⟩
           · omega
         have hcell:wr.cell? ⟨g5,c,none⟩=some (.bool false):=by rw[hsq.cellAt c (by omega)];exact bcB_at sq c false hfalse
         have hfz:=hsq.frozenAt c;have hnew:∀j:Nat,(sq.set c true)[j]?=some true→sb1[j]?=some true∨(f≤j∧j<c+1):=by
          intro j h;rw[List.getElem?_set]at h;split at h
          · rename_i e;exact .inr ⟨by omega,by omega⟩
          · rcases hsqc.out j h with h'|h'
            · exact .inl h'
            · exact .inr ⟨h'.1,by omega⟩
         have hlt5:g5<wr.heap.size:=jd2 hcell;have HNEW:=Lib.hid hnew;have HSQ:=Lib.hid hsq;have HBQ:=Lib.hid hbq;have HF:=Lib.hid hfalse;clear hnew hsq hbq hfalse
         go_wp2_with (go_at_call 175;refine(HE.out _).mono ?_;rintro e wa ⟨rfl,hba⟩;have hcell':=kc hba hcell;have hfz':=kf hba hcell hfz)
         have hst:=(jb2 HSQ.out hba).stored c (.bool true);rw[qv8]at hst;have hga:=jt9 (jt9 hgq (kh3 hba _)) hst.2;have HST:=Lib.hid hst;clear hst
         go_roundw
         case rel=>exact⟨c+1,sq.set c true,by go_num,by omega,by omega,HST.out.1,by show _=_;rw[List.length_set];exact hsql.out,HNEW.out,hga⟩
         case measure=>simp[intOf];omega
       · have hcf:(c:Int)=f+rc:=by omega
         have hXq:=qr7 HX3.out hgq (fun k hk e=>HNX.out k hk e);have hWs:W.heap.size≤wr.heap.size:=Nat.le_trans hbel3.size hgq.size;have HCF:=Lib.hid hcf;have HXQ:=Lib.hid hXq;have HBQ:=Lib.hid hbq;have HWS:=Lib.hid hWs;clear hcf hXq hbq hWs
         go_wp2_with (first
          | (go_at_call 175;refine(HE.out _).mono ?_;rintro e wa ⟨rfl,hba⟩;have d0':=kc hba d0;have d1':=kc hba d1;have d2':=kc hba d2;have d3':=kc hba d3;have hWa:W.heap.size≤wa.heap.size:=(Nat.le_trans HWS.out hba.size))
          | (at_builtin;(refine jc4 rfl _ _ 173 235 rfl Tryz.underlying173 (.agg #[.int .i64 0,.int .i64 0,.int .i32 0,.slice none 0 0]) 4 48 kn1 rfl (by decide) wa W.heap.size u4 X.length (rcells X) rfl (jb2 HXQ.out hba) #[.int .i64 f,.int .i64 rc,.int .i32 rt,.slice ra rl rp] rfl (by simp[Value.oneCell']) rfl (by omega) (by omega) hWa ?_;intro v' w4 hX4 hb4 hk4)))
         have hgWa:w3.grownBy wa (some g5):=jt9 hgq (kh3 hba _);have hbWa:Below W.heap.size W wa:=hbel3.grown hgWa hbel3.size (by intro q hq;cases hq;exact hg5);have hs4:w4.ownsRow W.heap.size 4 1 (.slice (some ⟨g5,0,none⟩) sn cap5) sn (bcellsB sq):=jb5 (jb2 hsq hba) fun q hq=>by
          have hlt:=(jb7 (jb2 hsq hba) q hq).2;exact hk4 q hlt (fun e=>(kb4 (jb2 HXQ.out hba) (jb2 hsq hba) (by decide)) q e.symm hq)
         have hOk:∀(r:RR),r.Ok wa→r.Ok w4:=fun r hr=>hr.blk fun q cur hq=>hk4 q (Array.getElem?_eq_some_iff.1 hq).1 (fun e=>(jd0 (jb2 HXQ.out hba) hq (by decide)) e.symm)
         have hOk2:∀(r:RR),r.Ok w3→r.Ok w4:=fun r hr=>hOk r ((vh1 (v:=.slice (some ⟨g5,0,none⟩) sn cap5) hr hgq HS3.out (by decide)).keep hba)
         have hX5:OwnR w4 W.heap.size v' (X ++ [⟨f,rc,rt,ra,rl,rp,rs⟩]):=by unfold OwnR;rw[jh9,List.length_append];exact hX4
         have hm5:(X ++ [(⟨f,rc,rt,ra,rl,rp,rs⟩:RR)]).map RR.pl=(PS.take (k+1)).map PC.row:=by
          rw[List.map_append,hXm.out,List.take_add_one,HP.out,List.map_append];simp only[Option.toList,List.map_cons,List.map_nil,RR.pl];rw[HRP.out]
         have hok5:∀r∈X ++ [(⟨f,rc,rt,ra,rl,rp,rs⟩:RR)],r.Ok w4:=by
          intro r hr;rcases List.mem_append.1 hr with h|h
          · exact hOk2 r (HXO.out r h)
          · simp only[List.mem_singleton]at h;rw[h];exact hOk2 _ HRO.out
         have hcov5:∀c:Nat,sq[c]?=some true→∃p∈PS.take (k+1),p.row.has c:=by
          intro j hj;rw[List.take_add_one,HP.out];rcases hsqc.out j hj with h|⟨h1,h2⟩
          · obtain⟨q,hq,hqc⟩:=hcov.out j (HC3.out j h)
            exact⟨q,List.mem_append_left _ hq,hqc⟩
          · refine⟨p,List.mem_append_right _ (by simp),?_⟩
            rw[←HRP.out];have:=HCF.out;exact⟨by show(f:Int)≤j;omega,by show(j:Int)<f+rc;omega⟩
         have hb5:Below W.heap.size W w4:=hbWa.trans hb4;have hs5:w4.ownsRow W.heap.size 4 1 (.slice (some ⟨g5,0,none⟩) sn cap5) sq.length (bcellsB sq):=by rw[hsql.out];exact hs4
         have hfin:∃(k':Nat) (X':List RR) (sb':List Bool),k'≤n∧Value.int .i64 ((k:Int)+1)=.int .i64 (k':Int)∧OwnR w4 W.heap.size v' X'∧Hid (X'.map RR.pl=(PS.take k').map PC.row)∧Hid (∀r∈X',r.Ok w4) ∧
          w4.ownsRow W.heap.size 4 1 (.slice (some ⟨g5,0,none⟩) sn cap5) sb'.length (bcellsB sb')∧sb'.length≤1048576∧Hid (∀c:Nat,sb'[c]?=some true→∃p∈PS.take k',p.row.has c)∧Below W.heap.size W w4:=
          ⟨k+1,_,sq,by omega,by go_num,hX5,hm5,hok5,hs5,by rw[hsql.out];exact hsn20,hcov5,hb5⟩
         have HFIN:=Lib.hid hfin;clear hfin;clear hX4 hs4 hOk hOk2 hX5 hm5 hok5 hcov5 hb5 hs5 hk4 hb4 hgWa
         go_roundw
         case rel=>exact HFIN.out
         case measure=>simp[intOf];omega
    · have hbel3:=hbel2
      have hXk:OwnR w2 W.heap.size _ X:=HX2.out;have hbk:=HBLK.out;have hXok3:=HXOK2.out;have hrok3:=HROK2.out;obtain⟨sb1,hsb1⟩:∃sb1,sb1=sb:=⟨_,rfl⟩;have hc3:∀c:Nat,sb1[c]?=some true→sb[c]?=some true:=by rw[hsb1];exact fun _ h=>h
      have hs3:=HS2.out;rw[←hsb1]at hs3 hgr hsbl ⊢;obtain⟨sn,hsn⟩:∃sn,sn=sb1.length:=⟨_,rfl⟩;rw[←hsn]at hs3 hgr hsbl ⊢;have hfl:(f:Int)+rc≤sn:=by omega
      have hsn20:sn≤1048576:=hsbl;have HSN:=Lib.hid hsn;have HBK0:=Lib.hid hbk;have HXOK0:=Lib.hid hXok3;have HC30:=Lib.hid hc3;have HS30:=Lib.hid hs3;have HXK0:=Lib.hid hXk;have HRO0:=Lib.hid hrok3;clear hsn hbk hXok3 hc3 hs3 hXk hrok3;clear hsb1
      go_wp2_with fail
      have hbk:=HBK0.out;have hXok3:=HXOK0.out;have hc3:=HC30.out;have hs3:=HS30.out;have hXk:=HXK0.out;have hrok3:=HRO0.out;clear hgr q0;obtain⟨g5,cap5,he5,hg5⟩:=jc9 hs3 (by omega);simp only[Value.slice.injEq,true_and]at he5;obtain⟨rfl,rfl⟩:=he5;have hX3:OwnR w2 W.heap.size _ X:=hXk;have hneX:=kb4 hX3 hs3 (by decide);have hne8:=jd0 hs3 hbk (by decide);have HS3:=Lib.hid hs3;have HX3:=Lib.hid hX3;have HNX:=Lib.hid hneX;have HN8:=Lib.hid hne8;have HBK:=Lib.hid hbk;have HXO:=Lib.hid hXok3;have HRO:=Lib.hid hrok3;have HC3:=Lib.hid hc3;clear hX3 hneX hne8 hbk hXok3 hrok3 hc3;clear hs3 hXk
      go_loopw [11] (fun cv wq=>∃(c:Nat) (sq:List Bool),cv=.int .i64 (c:Int)∧f≤c∧(c:Int)≤f+rc∧wq.ownsRow W.heap.size 4 1 (.slice (some ⟨g5,0,none⟩) sn c5) sn (bcellsB sq)∧Hid (sq.length=sn) ∧
       Hid (∀j:Nat,sq[j]?=some true→sb1[j]?=some true∨(f≤j∧j<c))∧w2.grownBy wq (some g5)) (fun cv _=>(f+rc-intOf cv).toNat)
      case atStart=>exact⟨f,sb1,rfl,Nat.le_refl _,by omega,HS3.out,HSN.out.symm,fun j h=>.inl h,xf5 _ _⟩
      case round=>
       obtain⟨c,sq,rfl,hc0,hcl,hsq,hsql,hsqc,hgq⟩:=hrel;have hbq:wr.heap[w1.heap.size]?=some (.cells #[.int .i64 f,.int .i64 rc,.int .i32 rt,.slice ra rl rp] 235 (0,0)):=(hgq.block _ (Array.getElem?_eq_some_iff.1 HBK.out).1 (fun e=>HN8.out e.symm)).trans HBK.out;have d0:wr.cell? ⟨w1.heap.size,0,none⟩=some (.int .i64 f):=by rw[cell_of_row _ _ _ _ _ _ hbq];rfl
       have d1:wr.cell? ⟨w1.heap.size,1,none⟩=some (.int .i64 rc):=by rw[cell_of_row _ _ _ _ _ _ hbq];rfl
       have d2:wr.cell? ⟨w1.heap.size,2,none⟩=some (.int .i32 rt):=by rw[cell_of_row _ _ _ _ _ _ hbq];rfl
       have d3:wr.cell? ⟨w1.heap.size,3,none⟩=some (.slice ra rl rp):=by rw[cell_of_row _ _ _ _ _ _ hbq];rfl
       by_cases hcc:(c:Int)<f+rc
       · have hcs:c<sn:=by omega
         have hfalse:sq[c]?=some false:=by
          have hl:c<sq.length:=by rw[hsql.out];exact hcs
          rw[List.getElem?_eq_getElem hl];cases hv:sq[c]with
          | false=>rfl
          | true=>
           exfalso
           rcases hsqc.out c (by rw[List.getElem?_eq_getElem hl,hv])with h|⟨_,h⟩
           · obtain⟨q,hq,hqc⟩:=hcov.out c (HC3.out c h)
             exact HDJ.out q hq c ⟨hqc,by rw[←HRP.out];exact⟨by show(f:Int)≤c;omega,hcc⟩⟩
           · omega
         have hcell:wr.cell? ⟨g5,c,none⟩=some (.bool false):=by rw[hsq.cellAt c (by omega)];exact bcB_at sq c false hfalse
         have hfz:=hsq.frozenAt c;have hnew:∀j:Nat,(sq.set c true)[j]?=some true→sb1[j]?=some true∨(f≤j∧j<c+1):=by
          intro j h;rw[List.getElem?_set]at h;split at h
          · rename_i e;exact .inr ⟨by omega,by omega⟩
          · rcases hsqc.out j h with h'|h'
            · exact .inl h'
            · exact .inr ⟨h'.1,by omega⟩
         have hlt5:g5<wr.heap.size:=jd2 hcell;have HNEW:=Lib.hid hnew;have HSQ:=Lib.hid hsq;have HBQ:=Lib.hid hbq;have HF:=Lib.hid hfalse;clear hnew hsq hbq hfalse
         go_wp2_with (go_at_call 175;refine(HE.out _).mono ?_;rintro e wa ⟨rfl,hba⟩;have hcell':=kc hba hcell;have hfz':=kf hba hcell hfz)
         have hst:=(jb2 HSQ.out hba).stored c (.bool true);rw[qv8]at hst;have hga:=jt9 (jt9 hgq (kh3 hba _)) hst.2;have HST:=Lib.hid hst;clear hst
         go_roundw
         case rel=>exact⟨c+1,sq.set c true,by go_num,by omega,by omega,HST.out.1,by show _=_;rw[List.length_set];exact hsql.out,HNEW.out,hga⟩
         case measure=>simp[intOf];omega
       · have hcf:(c:Int)=f+rc:=by omega
         have hXq:=qr7 HX3.out hgq (fun k hk e=>HNX.out k hk e);have hWs:W.heap.size≤wr.heap.size:=Nat.le_trans hbel3.size hgq.size;have HCF:=Lib.hid hcf;have HXQ:=Lib.hid hXq;have HBQ:=Lib.hid hbq;have HWS:=Lib.hid hWs;clear hcf hXq hbq hWs
         go_wp2_with (first
          | (go_at_call 175;refine(HE.out _).mono ?_;rintro e wa ⟨rfl,hba⟩;have d0':=kc hba d0;have d1':=kc hba d1;have d2':=kc hba d2;have d3':=kc hba d3;have hWa:W.heap.size≤wa.heap.size:=(Nat.le_trans HWS.out hba.size))
          | (at_builtin;(refine jc4 rfl _ _ 173 235 rfl Tryz.underlying173 (.agg #[.int .i64 0,.int .i64 0,.int .i32 0,.slice none 0 0]) 4 48 kn1 rfl (by decide) wa W.heap.size u4 X.length (rcells X) rfl (jb2 HXQ.out hba) #[.int .i64 f,.int .i64 rc,.int .i32 rt,.slice ra rl rp] rfl (by simp[Value.oneCell']) rfl (by omega) (by omega) hWa ?_;intro v' w4 hX4 hb4 hk4)))
         have hgWa:w2.grownBy wa (some g5):=jt9 hgq (kh3 hba _);have hbWa:Below W.heap.size W wa:=hbel3.grown hgWa hbel3.size (by intro q hq;cases hq;exact hg5);have hs4:w4.ownsRow W.heap.size 4 1 (.slice (some ⟨g5,0,none⟩) sn c5) sn (bcellsB sq):=jb5 (jb2 hsq hba) fun q hq=>by
          have hlt:=(jb7 (jb2 hsq hba) q hq).2;exact hk4 q hlt (fun e=>(kb4 (jb2 HXQ.out hba) (jb2 hsq hba) (by decide)) q e.symm hq)
         have hOk:∀(r:RR),r.Ok wa→r.Ok w4:=fun r hr=>hr.blk fun q cur hq=>hk4 q (Array.getElem?_eq_some_iff.1 hq).1 (fun e=>(jd0 (jb2 HXQ.out hba) hq (by decide)) e.symm)
         have hOk2:∀(r:RR),r.Ok w2→r.Ok w4:=fun r hr=>hOk r ((vh1 (v:=.slice (some ⟨g5,0,none⟩) sn c5) hr hgq HS3.out (by decide)).keep hba)
         have hX5:OwnR w4 W.heap.size v' (X ++ [⟨f,rc,rt,ra,rl,rp,rs⟩]):=by unfold OwnR;rw[jh9,List.length_append];exact hX4
         have hm5:(X ++ [(⟨f,rc,rt,ra,rl,rp,rs⟩:RR)]).map RR.pl=(PS.take (k+1)).map PC.row:=by
          rw[List.map_append,hXm.out,List.take_add_one,HP.out,List.map_append];simp only[Option.toList,List.map_cons,List.map_nil,RR.pl];rw[HRP.out]
         have hok5:∀r∈X ++ [(⟨f,rc,rt,ra,rl,rp,rs⟩:RR)],r.Ok w4:=by
          intro r hr;rcases List.mem_append.1 hr with h|h
          · exact hOk2 r (HXO.out r h)
          · simp only[List.mem_singleton]at h;rw[h];exact hOk2 _ HRO.out
         have hcov5:∀c:Nat,sq[c]?=some true→∃p∈PS.take (k+1),p.row.has c:=by
          intro j hj;rw[List.take_add_one,HP.out];rcases hsqc.out j hj with h|⟨h1,h2⟩
          · obtain⟨q,hq,hqc⟩:=hcov.out j (HC3.out j h)
            exact⟨q,List.mem_append_left _ hq,hqc⟩
          · refine⟨p,List.mem_append_right _ (by simp),?_⟩
            rw[←HRP.out];have:=HCF.out;exact⟨by show(f:Int)≤j;omega,by show(j:Int)<f+rc;omega⟩
         have hb5:Below W.heap.size W w4:=hbWa.trans hb4;have hs5:w4.ownsRow W.heap.size 4 1 (.slice (some ⟨g5,0,none⟩) sn c5) sq.length (bcellsB sq):=by rw[hsql.out];exact hs4
         have hfin:∃(k':Nat) (X':List RR) (sb':List Bool),k'≤n∧Value.int .i64 ((k:Int)+1)=.int .i64 (k':Int)∧OwnR w4 W.heap.size v' X'∧Hid (X'.map RR.pl=(PS.take k').map PC.row)∧Hid (∀r∈X',r.Ok w4) ∧
          w4.ownsRow W.heap.size 4 1 (.slice (some ⟨g5,0,none⟩) sn c5) sb'.length (bcellsB sb')∧sb'.length≤1048576∧Hid (∀c:Nat,sb'[c]?=some true→∃p∈PS.take k',p.row.has c)∧Below W.heap.size W w4:=
          ⟨k+1,_,sq,by omega,by go_num,hX5,hm5,hok5,hs5,by rw[hsql.out];exact hsn20,hcov5,hb5⟩
         have HFIN:=Lib.hid hfin;clear hfin;clear hX4 hs4 hOk hOk2 hX5 hm5 hok5 hcov5 hb5 hs5 hk4 hb4 hgWa
         go_roundw
         case rel=>exact HFIN.out
         case measure=>simp[intOf];omega
  · have hkn:k=n:=by omega
    subst hkn;have hXl:X.length=k:=by
     have:=congrArg List.length hXm.out;rw[List.length_map,List.length_map,List.length_take,←HN.out]at this;omega
    have hXne:X ≠ []:=by
     intro e;rw[e]at hXl;simp at hXl;exact HNE.out (List.eq_nil_of_length_eq_zero (by rw[←HN.out,←hXl]))
    obtain⟨a9,c9,rfl⟩:=jb4 hX;have hbF:=fun w' h=>kw8 (.slice a9 X.length c9) X W.heap.size w' h hXne (by omega)
    have hm':X.map RR.pl=PS.map PC.row:=by
     have:=hXm.out
     rwa [List.take_of_length_le (by rw[HN.out];exact Nat.le_refl _)]at this
    obtain⟨a1,a2⟩:=(show Live wr w.heap.size 0 (.slice none 0 0) from M0.out.keep hbel);obtain⟨a3,a4⟩:=(show Live wr (w.heap.size+1) 0 (.int .i64 0) from M1.out.keep hbel);obtain⟨a5,a6⟩:=(show Live wr (w.heap.size+1) 1 (.int .i64 0) from M2.out.keep hbel);have hWl:w.heap.size+1<W.heap.size:=M1.out.lt;have HBF:=Lib.hid hbF;have HM':=Lib.hid hm';have HX:=Lib.hid hX;have HXL:=Lib.hid hXl;have HXNE:=Lib.hid hXne;clear hbF hm' hX hXl hXne
    go_wp2_with fail
    refine(HBF.out _ HX.out).mono ?_;rintro e w2 ⟨rfl,X',hX1,hX2,hX3⟩;have hne0:=fun q hq=>(jb7 HX.out q hq).1
    have b1:=kd0 a1 hX3 (fun e=>by have:=hne0 _ e;omega);have b2:=jz0 a1 a2 hX3 (fun e=>by have:=hne0 _ e;omega);have b3:=kd0 a3 hX3 (fun e=>by have:=hne0 _ e;omega);have b4:=jz0 a3 a4 hX3 (fun e=>by have:=hne0 _ e;omega);have b5:=kd0 a5 hX3 (fun e=>by have:=hne0 _ e;omega);have b6:=jz0 a5 a6 hX3 (fun e=>by have:=hne0 _ e;omega);clear a1 a2 a3 a4 a5 a6;have HX1:=Lib.hid hX1;have HX2:=Lib.hid hX2;have HX3:=Lib.hid hX3;have HNE0:=Lib.hid hne0;clear hX1 hX2 hX3 hne0
    go_wp2_with fail
    refine bodyPost_ret (v:=.tuple #[.agg #[.slice a9 X.length c9],.agg #[.int .i64 0,.int .i64 0]]) (by simp[results,Tryz.results169,go_sem,b1,b2,b3,b4,b5,b6]) rfl ?_;have hl2:∀q,(Value.slice a9 X.length c9).ownBlock=some q→W.heap.size≤q:=HNE0.out;have hX1:=HX1.out;have hX2:=HX2.out;have hX3:=HX3.out;have hb2:Below W.heap.size W w2:=hbel.grown hX3 hbel.size hl2;have hbo:Below w.heap.size w w2:=HBW.out.trans (hb2.mono HBW.out.size);refine⟨.slice a9 X.length c9,X',rfl,?_,?_,hX1.2,?_,((hbo.setCell (Nat.le_refl _) _).setCell (Nat.le_succ _) _).setCell (Nat.le_succ _) _⟩
    · exact jc3 (jb5 hX2 fun q hq=>by
       have:=hl2 q hq;rw[Below.heap_setCell _ _ _ _ (by simp;omega),Below.heap_setCell _ _ _ _ (by simp;omega),Below.heap_setCell _ _ _ _ (by simp;omega)]) HBW.out.size
    · rw[←HM'.out];exact hX1.1.map _
    · intro r hr
      have h0:=vh1 (hXok.out r (hX1.1.mem_iff.1 hr)) hX3 HX.out (by decide);refine h0.blk fun q cur hq=>?_
      have hA:=HTB.out;have e0:q≠w.heap.size:=fun e=>by
       have:=(hb2.block w.heap.size M0.out.lt).trans hA.1;rw[e,this]at hq;simp at hq
      have e1:q≠w.heap.size+1:=fun e=>by
       have:=(hb2.block (w.heap.size+1) M1.out.lt).trans hA.2;rw[e,this]at hq;simp at hq
      rw[Below.heap_setCell _ _ _ _ e1,Below.heap_setCell _ _ _ _ e1,Below.heap_setCell _ _ _ _ e0]
def RP.Good(r:RP):Prop:=0≤r.fr∧1≤r.ct∧r.fr+r.ct≤1048576∧0≤r.tq∧r.tq+r.ct≤2097152∧∀l,r.sg=some l→(l.length:Int)=r.ct
def RP.sign(r:RP)(c:Int):Int:=match r.sg with|some l=>l.getD (c-r.fr).toNat 0|none=>r.tq+(c-r.fr)
def RP.pairs(r:RP):List (Int×Int):=(List.range r.ct.toNat).map fun(i:Nat)=>(r.fr+(i:Int),r.sign (r.fr+(i:Int)))
def pairsM(X:List RP):List (Int×Int):=X.flatMap RP.pairs
def sizeM(X:List RP):Int:=(X.map RP.ct).sum
theorem jz6(r:RP)(X:List RP):sizeM (r::X)=r.ct+sizeM X:=by simp[sizeM]
theorem kf9(X:List RP)(h:∀r∈X,r.Good):0≤sizeM X∧sizeM X≤X.length*1048576:=by
 induction X with
 | nil=>simp[sizeM]
 | cons r X ih=>
  have h1:=h r (by simp);have h2:=ih (fun q hq=>h q (by simp[hq]));rw[jz6,List.length_cons];obtain⟨a,b,c,_⟩:=h1;omega
theorem jq1{w:World}{B:Nat}{v:Value}{X:List RR}(h:OwnR w B v X)(k:Nat)(r:RR)(hk:X[k]?=some r):
 ∃g cap,v=.slice (some ⟨g,0,none⟩) X.length cap∧w.cell? ⟨g,k*4,none⟩=some (.int .i64 r.fr)∧w.cell? ⟨g,k*4+1,none⟩=some (.int .i64 r.ct)∧w.cell? ⟨g,k*4+2,none⟩=some (.int .i32 r.tq)∧w.cell? ⟨g,k*4+3,none⟩=some r.sv:=by
 have hkl:=(List.getElem?_eq_some_iff.1 hk).1;obtain⟨g,cap,rfl,_⟩:=jc9 h (by omega);refine⟨g,cap,rfl,?_,?_,?_,?_⟩
 · rw[World.ownsRow.cellAt h (k*4) (by omega)];exact(js0 X k r hk 0 (by omega))
 · rw[World.ownsRow.cellAt h (k*4+1) (by omega)];exact(js0 X k r hk 1 (by omega))
 · rw[World.ownsRow.cellAt h (k*4+2) (by omega)];exact(js0 X k r hk 2 (by omega))
 · rw[World.ownsRow.cellAt h (k*4+3) (by omega)];exact(js0 X k r hk 3 (by omega))
theorem qx9(v:Value)(X:List RR)(B:Nat)(w:World)(hX:OwnR w B v X)(hG:∀r∈X,r.pl.Good)(hl:X.length≤1000):
 Calls Tryz.prog 174 #[.agg #[v]] w fun e w'=>e=.returned (.int .i64 (sizeM (X.map RR.pl)))∧Below w.heap.size w w':=by
 obtain⟨R,hR⟩:∃R,R=sizeM (X.map RR.pl):=⟨_,rfl⟩;rw[←hR];obtain⟨av,cv,rfl⟩:=jb4 hX;obtain⟨n,hn⟩:∃n,n=X.length:=⟨_,rfl⟩;have hGs:∀k,0≤sizeM ((X.drop k).map RR.pl)∧sizeM ((X.drop k).map RR.pl)≤1048576000:=fun k=>by
  have:=kf9 ((X.drop k).map RR.pl) (fun r hr=>by
   obtain⟨q,hq,rfl⟩:=List.mem_map.1 hr;exact hG q (List.mem_of_mem_drop hq))
  rw[List.length_map,List.length_drop]at this;omega
 have hRb:=hGs 0;rw[List.drop_zero,←hR]at hRb;rw[←hn]at hl ⊢;have HR:=Lib.hid hR;have HX:=Lib.hid hX;have HG:=Lib.hid hG;have HN:=Lib.hid hn;have HGS:=Lib.hid hGs;clear hR hX hG hn hGs
 go_enter Tryz.func174,Tryz.ntmps174
 go_wp2_with fail
 obtain⟨W,hW⟩:∃W,W=w.alloc (.cells #[.slice av n cv] 175):=⟨_,rfl⟩;rw[←hW];have hbW:Below w.heap.size w W:=by rw[hW];exact bal (Below.refl _ _) _
 have t0:W.cell? ⟨w.heap.size,0,none⟩=some (.slice av n cv):=by rw[hW];go_simp
 clear hW;have HBW:=Lib.hid hbW;clear hbW
 go_loopw [3,9] (fun s i wr=>∃(k:Nat) (a:Int),k≤n∧i=.int .i64 (k:Int)∧s=.int .i64 a∧0≤a∧a≤1048576000∧Hid (R=a+sizeM ((X.drop k).map RR.pl))∧Below W.heap.size W wr) (fun _ i _=>n-(intOf i).toNat)
 case atStart=>exact⟨0,0,Nat.zero_le _,rfl,rfl,by omega,by omega,by show R=_;rw[HR.out];simp,Below.refl _ _⟩
 case round=>
  obtain⟨k,a,hk,rfl,rfl,ha0,ha1,hRk,hbel⟩:=hrel;by_cases hlt:k<n
  · obtain⟨r,hr⟩:=jb6 X k (by rw[←HN.out];exact hlt)
    obtain⟨g,cap,he,c0,c1,c2,c3⟩:=jq1 (jb2 (jb2 HX.out HBW.out) hbel) k r hr;simp only[Value.slice.injEq]at he;obtain⟨rfl,_,rfl⟩:=he;have hGr:=HG.out r (List.mem_of_getElem? hr);obtain⟨g0,g1,g2,_⟩:=hGr;have hd:=jd1 X k (List.getElem?_eq_some_iff.1 hr).1;rw[(List.getElem?_eq_some_iff.1 hr).2]at hd;have e1:=hRk.out;rw[hd,List.map_cons,jz6]at e1;have hnx:=HGS.out (k+1);have hR1:Hid (R=(a+r.pl.ct)+sizeM ((X.drop (k+1)).map RR.pl)):=by show R=_;omega
    have g1':1≤r.ct:=g1;have ha2:a+r.ct≤1048576000:=by
     have:r.pl.ct=r.ct:=rfl;omega
    have hw1:IntKind.i64.wrap (a+r.ct)=a+r.ct:=by rw[jf2]<;>omega
    obtain⟨rf,rc,rt,ra,rl,rp,rs⟩:=r;simp only[RR.sv,RR.pl]at *;clear hr hd e1 hRk
    go_wp2_with fail
    go_roundw
    case rel=>exact⟨k+1,a+rc,by omega,by go_num,by first|rfl|rw[hw1],by omega,by omega,hR1,bal hbel _⟩
    case measure=>simp[intOf];omega
  · have hkn:k=n:=by omega
    subst hkn;have e1:Hid (R=a):=by
     show R=a;rw[hRk.out,List.drop_of_length_le (by rw[HN.out];exact Nat.le_refl _)];simp[sizeM]
    go_wp2_with fail
    go_ret
    exact⟨by rw[e1.out];rfl,HBW.out.trans (hbel.mono HBW.out.size)⟩
theorem vb7:(Tryz.prog.info? 208).map (fun i=>(i.zero,i.size,i.bytes))=some (some (.agg #[.int .i64 0,.int .i32 0]),2,16):=by kernel_rfl
def prcells(l:List (Int×Int)):List Value:=l.flatMap fun p=>[.int .i64 p.1,.int .i32 p.2]
theorem kq5(X Y:List (Int×Int)):prcells (X++Y)=prcells X++prcells Y:=by simp[prcells]
theorem ks5(X:List (Int×Int))(i:Nat)(r:Int×Int)(h:X[i]?=some r)(j:Nat)(hj:j<2):(prcells X)[i*2+j]? = [Value.int .i64 r.1,.int .i32 r.2][j]?:=by
 induction X generalizing i with
 | nil=>simp at h
 | cons x X ih=>
  rw[prcells,List.flatMap_cons,←prcells];cases i with
  | zero=>
   simp only[List.getElem?_cons_zero,Option.some.injEq]at h;subst h;rw[List.getElem?_append_left (by simp;omega)];simp
  | succ i=>
   rw[List.getElem?_append_right (by simp;omega)];rw[show(i+1)*2+j - [Value.int .i64 x.1,.int .i32 x.2].length=i*2+j from by simp;omega];exact ih i (by simpa using h)
def OwnP(w:World)(B:Nat)(v:Value)(l:List (Int×Int)):Prop:=w.ownsRow B 208 2 v l.length (prcells l)
theorem vw1(r:RP)(h:1≤r.ct):(r.pairs.length:Int)=r.ct:=by unfold RP.pairs;simp;omega
theorem jz9(X:List RP)(h:∀r∈X,r.Good):((pairsM X).length:Int)=sizeM X:=by
 induction X with
 | nil=>rfl
 | cons r X ih=>
  have h1:=vw1 r (h r (by simp)).2.1;have h2:=ih (fun q hq=>h q (by simp[hq]));unfold pairsM at *;rw[List.flatMap_cons,List.length_append,jz6];omega
def RP.tail(r:RP)(i:Nat):List (Int×Int):=r.pairs.drop i
theorem RP.tail_step(r:RP)(i:Nat)(h:(i:Int)<r.ct):r.tail i=(r.fr+i,r.sign (r.fr+i))::r.tail (i+1):=by
 have h':i<r.ct.toNat:=by omega
 have h1:r.pairs[i]?=some (r.fr+(i:Int),r.sign (r.fr+(i:Int))):=by unfold RP.pairs;simp[h']
 obtain⟨hl,h2⟩:=List.getElem?_eq_some_iff.1 h1;unfold RP.tail;rw[jd1 _ i hl,h2]
theorem RP.tail_end(r:RP)(i:Nat)(h:r.ct≤i):r.tail i = []:=by
 unfold RP.tail;apply List.drop_of_length_le;unfold RP.pairs;simp;omega
def PairsPost(X:List RP)(B:Nat)(w:World)(e:Ending)(w':World):Prop:=∃v,e=.returned v∧OwnP w' B v (pairsM X)∧Below w.heap.size w w'
set_option maxRecDepth 100000 in
theorem vw2(v:Value)(X:List RR)(B:Nat)(w:World)(hX:OwnR w B v X)(hG:∀r∈X,r.pl.Good)(hO:∀r∈X,r.Ok w)(hl:X.length≤1000):
 Calls Tryz.prog 149 #[.agg #[v]] w (PairsPost (X.map RR.pl) w.heap.size w):=by
 obtain⟨R,hR⟩:∃R,R=pairsM (X.map RR.pl):=⟨_,rfl⟩;have hG':∀r∈X.map RR.pl,r.Good:=fun r hr=>by
  obtain⟨q,hq,rfl⟩:=List.mem_map.1 hr;exact hG q hq
 have hsz:=kf9 _ hG';have hszl:=jz9 _ hG';rw[←hR]at hszl;rw[List.length_map]at hsz;have k1:=fun w hX=>qx9 v X B w hX hG hl
 rw[←hszl]at k1;have hRl:R.length≤1048576000:=by omega
 have hfin:∀e w',(∃v,e=.returned v∧OwnP w' w.heap.size v R∧Below w.heap.size w w')→PairsPost (X.map RR.pl) w.heap.size w e w':=by rw[hR];exact fun _ _ h=>h
 obtain⟨av,cv,rfl⟩:=jb4 hX;obtain⟨n,hn⟩:∃n,n=X.length:=⟨_,rfl⟩;obtain⟨m,hm⟩:∃m,m=R.length:=⟨_,rfl⟩;obtain⟨i0,hi,hz0,hz1,hz2⟩:=info_parts vb7;rw[←hn]at hl k1 ⊢;rw[←hm]at hRl k1;have HR:=Lib.hid hR;have HX:=Lib.hid hX;have HG:=Lib.hid hG;have HN:=Lib.hid hn;have K1:=Lib.hid k1;have HO:=Lib.hid hO;have HM:=Lib.hid hm;have HFIN:=Lib.hid hfin;clear hR hX hG hn k1 hO hm hfin;clear hG' hsz hszl
 go_enter Tryz.func149,Tryz.ntmps149
 go_wp2_with fail
 obtain⟨W,hW⟩:∃W,W=w.alloc (.cells #[.slice av n cv] 175):=⟨_,rfl⟩;rw[←hW];have hbW:Below w.heap.size w W:=by rw[hW];exact bal (Below.refl _ _) _
 have t0:W.cell? ⟨w.heap.size,0,none⟩=some (.slice av n cv):=by rw[hW];go_simp
 clear hW;refine(K1.out _ (by rw[HN.out];exact jb2 HX.out hbW)).mono ?_;rintro e w1 ⟨rfl,hb1⟩;have hb2:=bt hbW hb1;have t1:=kc hb1 t0;have HBW:=Lib.hid hbW;clear hbW
 go_wp2_with (first
  | (refine wpList_make_own _ rfl _ _ 205 rfl _ 208 i0 (.agg #[.int .i64 0,.int .i32 0]) 2 Tryz.underlying205 hi hz0 hz1 .i64 .i64 (m:Int) m rfl rfl rfl (by rw[hz2];omega) (by unfold maxLen;omega) (Nat.le_refl _) ?_;intro W1 hown hgrow;have t2:=kd0 t1 hgrow (by simp)))
 have hbW1:Below w1.heap.size w1 W1:=(Below.refl _ _).grown hgrow (Nat.le_refl _) (by intro k hk;cases hk);have hown1:OwnP W1 w1.heap.size (.slice (some ⟨w1.heap.size,0,none⟩) 0 m) []:=hown;clear hown hgrow t0 t1
 go_loopw [3,13] (fun s i wr=>∃(k:Nat) (a:List (Int×Int)),k≤n∧i=.int .i64 (k:Int)∧OwnP wr w1.heap.size s a∧Hid (R=a++pairsM ((X.drop k).map RR.pl))∧Below w1.heap.size w1 wr) (fun _ i _=>n-(intOf i).toNat)
 case atStart=>exact⟨0,[],Nat.zero_le _,rfl,hown1,HR.out,hbW1⟩
 case round=>
  obtain⟨k,a,hk,rfl,hown,hRk,hbel⟩:=hrel;clear hown1 hbW1;have hbo:Below w.heap.size w wr:=hb2.trans (hbel.mono hb2.size);by_cases hlt:k<n
  · obtain⟨r,hr⟩:=jb6 X k (by rw[←HN.out];exact hlt)
    obtain⟨g,cap,he,c0,c1,c2,c3⟩:=jq1 (jb2 HX.out hbo) k r hr;simp only[Value.slice.injEq]at he;obtain⟨rfl,_,rfl⟩:=he;have hGr:=HG.out r (List.mem_of_getElem? hr);have hOr:=(HO.out r (List.mem_of_getElem? hr)).keep hbo;obtain⟨g0,g1,g2,g3,g4,g5⟩:=hGr;have hd:=jd1 X k (List.getElem?_eq_some_iff.1 hr).1;rw[(List.getElem?_eq_some_iff.1 hr).2]at hd;have e1:=hRk.out;rw[hd,List.map_cons,pairsM,List.flatMap_cons,←pairsM]at e1;have hsg:∀(c:Int) w',r.Ok w'→r.fr≤c→c<r.fin→Calls Tryz.prog 176 #[.agg r.enc.toArray,.int .i64 c] w' fun e w''=>e=.returned (.int .i32 (r.pl.sign c))∧Below w'.heap.size w' w'':=fun c w' hok h0 h1=>
     kk3 r c w' hok h0 h1 g0 (by have:r.fr+r.ct≤1048576:=g2;unfold RR.fin;omega) g3 (by have:r.tq+r.ct≤2097152:=g4;omega) g5
    have hT:=fun(i:Nat) (h:(i:Int)<r.ct)=>RP.tail_step r.pl i h
    have hTe:=fun(i:Nat) (h:r.ct≤i)=>RP.tail_end r.pl i h
    have e2:R=a++(r.pl.tail 0++pairsM ((X.drop (k+1)).map RR.pl)):=e1;obtain⟨rest,hrest⟩:∃rest,rest=pairsM ((X.drop (k+1)).map RR.pl):=⟨_,rfl⟩;rw[←hrest]at e2;have HREST:=Lib.hid hrest;clear hrest;obtain⟨rf,rc,rt,ra,rl,rp,rs⟩:=r;simp only[RR.sv,RR.pl,RR.enc,RR.fin]at *;obtain⟨f,rfl⟩:=Int.eq_ofNat_of_zero_le g0;have hend:=fun w=>kn9 f rc rt (.slice ra rl rp) w (by omega) (by omega)
    have hal:a.length≤m:=by rw[HM.out,e2];simp
    have E2:=Lib.hid e2;have HSG:=Lib.hid hsg;have HT:=Lib.hid hT;have HTE:=Lib.hid hTe;have HE:=Lib.hid hend;have HOR:=Lib.hid hOr;have HAL:=Lib.hid hal;clear e2 hsg hT hTe hend hOr hal;clear hr hd e1 hRk g5
    go_wp2_with fail
    have hbk:=heap_alloc_new wr (.cells #[.int .i64 f,.int .i64 rc,.int .i32 rt,.slice ra rl rp] 235);have hbA:Below w1.heap.size w1 (wr.alloc (.cells #[.int .i64 f,.int .i64 rc,.int .i32 rt,.slice ra rl rp] 235)):=hbel.alloc hbel.size _;have hoA:OwnP (wr.alloc (.cells #[.int .i64 f,.int .i64 rc,.int .i32 rt,.slice ra rl rp] 235)) w1.heap.size u3 a:=jb2 hown ((Below.refl _ _).alloc (Nat.le_refl _) _);have hrA:=HOR.out.keep ((Below.refl wr.heap.size wr).alloc (Nat.le_refl _) (.cells #[.int .i64 f,.int .i64 rc,.int .i32 rt,.slice ra rl rp] 235));generalize wr.alloc (.cells #[.int .i64 f,.int .i64 rc,.int .i32 rt,.slice ra rl rp] 235)=Wk at *;generalize hb8:wr.heap.size=b8 at *;clear hb8 hown hbel c0 c1 c2 c3 hbo;have HBK:=Lib.hid hbk;have HRA:=Lib.hid hrA;clear hbk hrA
    go_loopw [3,6] (fun s cv wq=>∃(c:Nat) (a':List (Int×Int)),(c:Int)≤rc∧cv=.int .i64 ((f:Int)+(c:Int))∧OwnP wq w1.heap.size s a'∧Hid (R=a'++(RP.tail ⟨f,rc,rt,rs⟩ c++rest))∧Below w1.heap.size w1 wq ∧
     Hid (wq.heap[b8]?=some (.cells #[.int .i64 f,.int .i64 rc,.int .i32 rt,.slice ra rl rp] 235 (0,0)))∧Hid (RR.Ok wq ⟨f,rc,rt,ra,rl,rp,rs⟩)) (fun _ cv _=>(f+rc-intOf cv).toNat)
    case atStart=>exact⟨0,a,by omega,by go_num,hoA,E2.out,hbA,HBK.out,HRA.out⟩
    case round=>
     obtain⟨c,a',hc,rfl,hown,hRc,hbel,hbq,hrq⟩:=hrel;have d0:wr.cell? ⟨b8,0,none⟩=some (.int .i64 f):=by rw[cell_of_row _ _ _ _ _ _ hbq.out];rfl
     have d1:wr.cell? ⟨b8,1,none⟩=some (.int .i64 rc):=by rw[cell_of_row _ _ _ _ _ _ hbq.out];rfl
     have d2:wr.cell? ⟨b8,2,none⟩=some (.int .i32 rt):=by rw[cell_of_row _ _ _ _ _ _ hbq.out];rfl
     have d3:wr.cell? ⟨b8,3,none⟩=some (.slice ra rl rp):=by rw[cell_of_row _ _ _ _ _ _ hbq.out];rfl
     by_cases hcc:(c:Int)<rc
     · have e3:=hRc.out
       rw[HT.out c hcc,List.cons_append]at e3;have hx:=fun w' hok=>HSG.out ((f:Int)+c) w' hok (by omega) (by omega)
       have hal':a'.length<m:=by rw[HM.out,e3];simp
       generalize RP.sign ⟨f,rc,rt,rs⟩ ((f:Int)+c)=q at *;have E3:=Lib.hid e3;have HX2:=Lib.hid hx;have HOWN:=Lib.hid hown;clear e3 hx hown;clear hRc
       go_wp2_with (first
        | (go_at_call 175;refine(HE.out _).mono ?_;rintro e wa ⟨rfl,hba⟩;have d0':=kc hba d0;have d1':=kc hba d1;have d2':=kc hba d2;have d3':=kc hba d3;have hoka:=hrq.out.keep hba)
        | (go_at_call 176;refine(HX2.out _ hoka).mono ?_;rintro e wb ⟨rfl,hbb⟩;have hbW1:w1.heap.size≤wb.heap.size:=Nat.le_trans (Nat.le_trans hbel.size hba.size) hbb.size)
        | (at_builtin;(refine jc4 rfl _ _ 205 208 rfl Tryz.underlying205 (.agg #[.int .i64 0,.int .i32 0]) 2 16 vb7 rfl (by decide) wb w1.heap.size u3 a'.length (prcells a') rfl (jb2 (jb2 HOWN.out hba) hbb) #[.int .i64 ((f:Int)+c),.int .i32 q] rfl (by simp[Value.oneCell']) rfl (by omega) (by omega) hbW1 ?_;intro v' w4 hX4 hb4 hk4)))
       have hob:=jb2 (jb2 HOWN.out hba) hbb;have hok4:RR.Ok w4 ⟨f,rc,rt,ra,rl,rp,rs⟩:=(hoka.keep hbb).blk fun k cur hk=>hk4 k (Array.getElem?_eq_some_iff.1 hk).1 (fun e=>(jd0 hob hk (by decide)) e.symm)
       have hbqb:wb.heap[b8]?=some (.cells #[.int .i64 f,.int .i64 rc,.int .i32 rt,.slice ra rl rp] 235 (0,0)):=by
        have hl8:b8<wr.heap.size:=(Array.getElem?_eq_some_iff.1 hbq.out).1;exact(hbb.block _ (Nat.lt_of_lt_of_le hl8 hba.size)).trans ((hba.block _ hl8).trans hbq.out)
       have hbq4:=(hk4 b8 (Array.getElem?_eq_some_iff.1 hbqb).1 (fun e=>(jd0 hob hbqb (by decide)) e.symm)).trans hbqb;have hown4:OwnP w4 w1.heap.size v' (a' ++ [((f:Int)+c,q)]):=by unfold OwnP;rw[kq5,List.length_append];exact hX4
       have e4:R=(a' ++ [((f:Int)+c,q)])++(RP.tail ⟨f,rc,rt,rs⟩ (c+1)++rest):=by rw[E3.out,List.append_assoc];rfl
       have hb5:Below w1.heap.size w1 w4:=(hbel.trans ((hba.trans (hbb.mono hba.size)).mono hbel.size)).trans hb4;have HOK4:=Lib.hid hok4;have HBQ4:=Lib.hid hbq4;have E4:=Lib.hid e4;have HBQB:=Lib.hid hbqb;have HOKA:=Lib.hid hoka;clear hok4 hbq4 e4 hbqb hoka;clear hk4 hX4 hob
       go_roundw
       case rel=>exact⟨c+1,_,by omega,by first|rfl|go_num|(congr 1;omega),hown4,E4.out,hb5,HBQ4.out,HOK4.out⟩
       case measure=>simp[intOf];omega
     · have hcr:rc=(c:Int):=by omega
       have e3:=hRc.out;rw[HTE.out c (by omega),List.nil_append]at e3;have E3:=Lib.hid e3;have HCR:=Lib.hid hcr;clear e3 hcr;clear hRc
       go_wp2_with (go_at_call 175;refine(HE.out _).mono ?_;rintro e wa ⟨rfl,hba⟩)
       go_roundw
       case rel=>exact⟨k+1,a',by omega,by go_num,jb2 hown hba,by show R=_;rw[←HREST.out];exact E3.out,hbel.trans (hba.mono hbel.size)⟩
       case measure=>simp[intOf];omega
  · have hkn:k=n:=by omega
    subst hkn;have e1:R=a:=by
     rw[hRk.out,List.drop_of_length_le (by rw[HN.out];exact Nat.le_refl _)];simp[pairsM]
    have hfo:OwnP wr w.heap.size u3 R:=by rw[e1];exact jc3 hown hb2.size
    have HFO:=Lib.hid hfo;clear hfo;clear e1
    go_wp2_with fail
    go_ret
    exact HFIN.out _ _ ⟨_,rfl,HFO.out,hbo⟩
end Go.Proofs.YtagjkmkmphamoaaGreatDoor
