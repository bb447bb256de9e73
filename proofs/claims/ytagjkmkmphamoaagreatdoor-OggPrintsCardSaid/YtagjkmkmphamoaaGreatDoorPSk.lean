/- Sk -/
import Derived.Test.YtagjkmkmphamoaaGreatDoorPSj
set_option linter.all false
set_option maxHeartbeats 8000000
namespace Go.Proofs.YtagjkmkmphamoaaGreatDoor
open Go.RowKit
def kgF:List (Int×Int)→List Bool→List Int→List Bool×List Int
 | [],K,G=>(K,G)
 | p::l,K,G=>if p.1<256 then kgF l (K.set p.1.toNat true) (G.set p.1.toNat p.2)else kgF l K G
def kgM(S:List RP):List Bool×List Int:=kgF (pairsM S) (List.replicate 256 false) (List.replicate 256 0)
def sgS(KG:List Bool×List Int)(b:UInt8):Option (List UInt8):=if KG.1.getD b.toNat false=true then some (encR (KG.2.getD b.toNat 0))else none
theorem zeroK:Tryz.zeroCells203=(bcellsB (List.replicate 256 false)).toArray:=by kernel_rfl
theorem zeroG:Tryz.zeroCells204=(icells (List.replicate 256 0)).toArray:=by kernel_rfl
theorem kgF_bd:∀(l:List (Int×Int)) (hP:∀p∈l,0≤p.1∧0≤p.2∧p.2≤1114111) (K:List Bool) (G:List Int) (hG:∀i:Nat,0≤G.getD i 0∧G.getD i 0≤1114111),
 ∀i:Nat,0≤(kgF l K G).2.getD i 0∧(kgF l K G).2.getD i 0≤1114111:=by
 intro l
 induction l with
 | nil=>intro _ K G hG;exact hG
 | cons p l ih=>
  intro hP K G hG;have hp:=hP p (List.mem_cons_self ..);have ih':=ih (fun q hq=>hP q (List.mem_cons_of_mem _ hq));simp only[kgF];split
  · refine ih' _ _ fun i=>?_
    simp only[List.getD,List.getElem?_set];split
    · split
      · simpa using hp.2
      · simp
    · exact hG i
  · exact ih' _ _ hG
theorem vj5(l:List Int)(j:Nat)(b:Int):(icells l).set j (.int .i32 b)=icells (l.set j b):=by simp[icells,List.map_set]
theorem qz4{w:World}{B:Nat}{v:Value}{l:List (Int×Int)}(h:OwnP w B v l)(k:Nat)(p:Int×Int)(hk:l[k]?=some p):
 ∃g cap,v=.slice (some ⟨g,0,none⟩) l.length cap∧B≤g∧w.cell? ⟨g,k*2,none⟩=some (.int .i64 p.1)∧w.cell? ⟨g,k*2+1,none⟩=some (.int .i32 p.2):=by
 have hkl:=(List.getElem?_eq_some_iff.1 hk).1;obtain⟨g,cap,rfl,hB⟩:=jc9 h (by omega);refine⟨g,cap,rfl,hB,?_,?_⟩
 · rw[World.ownsRow.cellAt h (k*2) (by omega)];exact(ks5 l k p hk 0 (by omega))
 · rw[World.ownsRow.cellAt h (k*2+1) (by omega)];exact(ks5 l k p hk 1 (by omega))
def DecPost(r:List UInt8×Option Nat)(w:World)(e:Ending)(w':World):Prop:=e=.returned (.tuple #[.string ⟨r.1.toArray⟩,faultV r.2])∧Below w.heap.size w w'
theorem kg_set(wr:World)(a p:Nat)(q:Int)(K:List Bool)(G:List Int)(X:Obj)(T T':TypeId)(hK:wr.heap[a]?=some (.cells (bcellsB K).toArray T (0,0)))(hG:wr.heap[a+1]?=some (.cells (icells G).toArray T' (0,0)))
 (W:World) (hW:W=(((wr.setCell ⟨a,p,none⟩ (.bool true)).setCell ⟨a+1,p,none⟩ (.int .i32 q)).alloc X).drew):
 W.heap[a]?=some (.cells (bcellsB (K.set p true)).toArray T (0,0))∧W.heap[a+1]?=some (.cells (icells (G.set p q)).toArray T' (0,0)) ∧
  (∀r,r<wr.heap.size→r≠a→r≠a+1→W.heap[r]?=wr.heap[r]?)∧(∀w5,Below a w5 wr→a≤w5.heap.size→Below a w5 W):=by
 have l1:=(Array.getElem?_eq_some_iff.1 hG).1;have q1:=heap_setCell_same wr a p _ _ (.bool true) hK;have q2:(wr.setCell ⟨a,p,none⟩ (.bool true)).heap[a+1]?=some (.cells (icells G).toArray T' (0,0)):=(Below.heap_setCell _ _ _ _ (by simp)).trans hG;have q3:=heap_setCell_same _ (a+1) p _ _ (.int .i32 q) q2;have q4:=(Below.heap_setCell (wr.setCell ⟨a,p,none⟩ (.bool true)) ⟨a+1,p,none⟩ (.int .i32 q) a (by simp)).trans q1;have hA:=fun r (h:r<wr.heap.size)=>((Below.refl wr.heap.size ((wr.setCell ⟨a,p,none⟩ (.bool true)).setCell ⟨a+1,p,none⟩ (.int .i32 q))).alloc (by simp) X).block r h
 rw[List.setIfInBounds_toArray,qv8]at q4;rw[List.setIfInBounds_toArray,vj5]at q3;subst hW;refine⟨(hA a (by omega)).trans q4,(hA _ l1).trans q3,fun r h h1 h2=>?_,fun w5 hb hl=>?_⟩
 · exact(hA r h).trans ((Below.heap_setCell _ _ _ _ h2).trans (Below.heap_setCell _ _ _ _ h1))
 · have hs:=hb.size
   exact(((hb.setCell (p:=⟨a,p,none⟩) (Nat.le_refl _) _).setCell (p:=⟨a+1,p,none⟩) (show a≤a+1 from Nat.le_succ _) _).alloc (by simp;omega) _).drew
set_option maxRecDepth 100000 in
theorem kj8(v:Value)(S:List RP)(B:Nat)(c:Int)(b:ByteArray)(w:World)(hT:TW w)(hX:Tab w B v S)(hG:∀r∈S,r.Good)(hl:S.length≤1000)(hb:b.size≤1073741824)
 (hP:∀p∈pairsM S,0≤p.1∧0≤p.2∧p.2≤1114111):
 Calls Tryz.prog 124 #[.agg #[v,.int .i64 c],.string b] w (DecPost (decT (tokS (sgS (kgM S))) (bl b)) w):=by
 obtain⟨a,cp,rfl⟩:=hX.len;have kp:=fun v w h=>qz6 v S B w h hG hl
 obtain⟨KG,hKG⟩:∃KG,KG=kgM S:=⟨_,rfl⟩;obtain⟨L,hL⟩:∃L,L=pairsM S:=⟨_,rfl⟩;rw[←hKG];unfold kgM at hKG;rw[←hL]at hKG hP;have hLl:L.length≤1048576000:=by
  have h1:=jz9 S hG;have h2:=kf9 S hG;rw[hL];omega
 have kp2:∀v w,Tab w B v S→Calls Tryz.prog 149 #[.agg #[v]] w (fun e w'=>∃v',e=.returned v'∧OwnP w' w.heap.size v' L∧Below w.heap.size w w'):=by rw[hL];exact kp
 obtain⟨W,hW⟩:∃W,W=(((w.alloc (.cells #[.slice a S.length cp,.int .i64 c] 177)).alloc (.cells #[.int .i64 0,.int .i64 0] 54)).alloc (.cells Tryz.zeroCells203 203)).alloc (.cells Tryz.zeroCells204 204):=⟨_,rfl⟩;have s1:(w.alloc (.cells #[.slice a S.length cp,.int .i64 c] 177)).heap.size=w.heap.size+1:=World.size_alloc _ _;have s2:((w.alloc (.cells #[.slice a S.length cp,.int .i64 c] 177)).alloc (.cells #[.int .i64 0,.int .i64 0] 54)).heap.size=w.heap.size+2:=by rw[World.size_alloc,s1]
 have s3:(((w.alloc (.cells #[.slice a S.length cp,.int .i64 c] 177)).alloc (.cells #[.int .i64 0,.int .i64 0] 54)).alloc (.cells Tryz.zeroCells203 203)).heap.size=w.heap.size+3:=by rw[World.size_alloc,s2]
 have hbW:Below w.heap.size w W:=by rw[hW];exact bal (bal (bal (bal (Below.refl _ _) _) _) _) _
 have m0:Live W (w.heap.size+1) 0 (.int .i64 0):=by rw[hW,←s1];exact((Live.fresh _ _ _ 0 _ rfl).alloc _).alloc _
 have m1:Live W (w.heap.size+1) 1 (.int .i64 0):=by rw[hW,←s1];exact((Live.fresh _ _ _ 1 _ rfl).alloc _).alloc _
 have hKb:W.heap[w.heap.size+2]?=some (.cells (bcellsB (List.replicate 256 false)).toArray 203 (0,0)):=by rw[hW,←zeroK];exact(heap_alloc_old _ _ (by rw[s3];omega)).trans (by rw[←s2];exact heap_alloc_new _ _)
 have hGb:W.heap[w.heap.size+3]?=some (.cells (icells (List.replicate 256 0)).toArray 204 (0,0)):=by rw[hW,←zeroG,←s3];exact heap_alloc_new _ _
 have hTX:=hX.bel hbW;have hTW:=hT.bel hbW;generalize S.length=n at *;have KP:=Lib.hid kp2;have HX:=Lib.hid hX;have HTX:=Lib.hid hTX;have HKG:=Lib.hid hKG;have HL:=Lib.hid hL;have HW:=Lib.hid hW;have HP:=Lib.hid hP;have HKB:=Lib.hid hKb;have HGB:=Lib.hid hGb;have M0:=Lib.hid m0;have M1:=Lib.hid m1;have HTW:=Lib.hid hTW;have HBW:=Lib.hid hbW;clear kp2 hX hTX hKG hL hW hP hKb hGb m0 m1 hTW hbW;clear kp s1 s2 s3 hG hl hT;have HBL:Hid ((bl b).length=b.size):=jb1 b
 go_enter Tryz.func124,Tryz.ntmps124
 go_wp2_with fail
 rw[←HW.out];refine(KP.out _ _ HTX.out).mono ?_;rintro e W5 ⟨v5,rfl,hv5,hb5⟩;have hKb:=(hb5.block _ (Array.getElem?_eq_some_iff.1 HKB.out).1).trans HKB.out;have hGb:=(hb5.block _ (Array.getElem?_eq_some_iff.1 HGB.out).1).trans HGB.out;have hW4:w.heap.size+4≤W.heap.size:=(Array.getElem?_eq_some_iff.1 HGB.out).1;have hW5:w.heap.size+4≤W5.heap.size:=Nat.le_trans hW4 hb5.size;have hv5':OwnP W5 (w.heap.size+4) v5 L:=jc3 hv5 hW4;have n0:=M0.out.keep hb5;have n1:=M1.out.keep hb5;have hb05:=HBW.out.trans (hb5.mono HBW.out.size);have hTW5:=HTW.out.bel hb5;obtain⟨av,cv,rfl⟩:=jb4 hv5';obtain⟨m,hm⟩:∃m,m=L.length:=⟨_,rfl⟩;rw[←hm]at hLl ⊢;have HKB5:=Lib.hid hKb;have HGB5:=Lib.hid hGb;have HV5:=Lib.hid hv5';have N0:=Lib.hid n0;have N1:=Lib.hid n1;have HB05:=Lib.hid hb05;have HTW5:=Lib.hid hTW5;have HM:=Lib.hid hm;clear hKb hGb hv5' n0 n1 hb05 hTW5 hm;clear hv5 hb5
 go_wp2_with fail
 go_loopw [16] (fun jv wr=>∃(j:Nat) (K:List Bool) (G:List Int),jv=.int .i64 (j:Int)∧j≤m∧K.length=256∧G.length=256∧Hid (wr.heap[w.heap.size+2]?=some (.cells (bcellsB K).toArray 203 (0,0)))∧Hid (wr.heap[w.heap.size+3]?=some (.cells (icells G).toArray 204 (0,0))) ∧
  Hid (KG=kgF (L.drop j) K G)∧Hid (∀q,q<W5.heap.size→q≠w.heap.size+2→q≠w.heap.size+3→wr.heap[q]?=W5.heap[q]?)∧Below (w.heap.size+2) W5 wr) (fun jv _=>m-(intOf jv).toNat)
 case atStart=>exact⟨0,_,_,rfl,Nat.zero_le _,by simp,by simp,HKB5.out,HGB5.out,HKG.out,fun _ _ _ _=>rfl,Below.refl _ _⟩
 case round=>
  obtain⟨j,K,G,rfl,hj,hKl,hGl,hKb,hGb,hR,hkeep,hbel⟩:=hrel;by_cases hlt:j<m
  · obtain⟨p,hp⟩:=jb6 L j (by rw[←HM.out];exact hlt)
    obtain⟨p0,p1,p2⟩:=HP.out p (List.mem_of_getElem? hp);obtain⟨g,cap,he,hg4,c0,c1⟩:=qz4 HV5.out j p hp;simp only[Value.slice.injEq]at he;obtain⟨rfl,_,rfl⟩:=he;have e0:wr.heap[g]?=W5.heap[g]?:=hkeep.out g (jd2 c0) (by omega) (by omega);have d0:wr.cell? ⟨g,j*2,none⟩=some (.int .i64 p.1):=by unfold World.cell? at *;rw[e0];exact c0
    have d1:wr.cell? ⟨g,j*2+1,none⟩=some (.int .i32 p.2):=by unfold World.cell? at *;rw[e0];exact c1
    have hd:=jd1 L j (List.getElem?_eq_some_iff.1 hp).1;rw[(List.getElem?_eq_some_iff.1 hp).2]at hd;have e1:=hR.out;rw[hd,kgF]at e1;obtain⟨p,q⟩:=p;simp only at p0 p1 p2 d0 d1 e1;obtain⟨p,rfl⟩:=Int.eq_ofNat_of_zero_le p0;clear hd hp c0 c1 e0 hR;by_cases hpc:(p:Int)<256
    · rw[if_pos hpc,Int.toNat_natCast]at e1
      have hkc:wr.cell? ⟨w.heap.size+2,p,none⟩=some (.bool (K.getD p false)):=by
       rw[cell_of_row _ _ _ _ _ _ hKb.out];have:p<K.length:=by omega
       simp[bcellsB,List.getD,this]
      have hkf:wr.frozen? ⟨w.heap.size+2,p,none⟩=false:=by simp[World.frozen?,hKb.out]
      have hgc:wr.cell? ⟨w.heap.size+3,p,none⟩=some (.int .i32 (G.getD p 0)):=by
       rw[cell_of_row _ _ _ _ _ _ hGb.out];have:p<G.length:=by omega
       simp[icells,List.getD,this]
      have hgf:wr.frozen? ⟨w.heap.size+3,p,none⟩=false:=by simp[World.frozen?,hGb.out]
      have E1:=Lib.hid e1;clear e1;have hl2:w.heap.size+2<wr.heap.size:=jd2 hkc;have hl3:w.heap.size+3<wr.heap.size:=jd2 hgc;have f0:=fun X=>kc (bal (Below.refl _ _) X) hkc
      have f1:=fun X=>kf (bal (Below.refl _ _) X) hkc hkf
      have f2:=fun X=>kc (bal (Below.refl _ _) X) hgc
      have f3:=fun X=>kf (bal (Below.refl _ _) X) hgc hgf
      go_wp2_with fail
      go_region
      obtain⟨r1,r2,r3,r4⟩:=kg_set wr (w.heap.size+2) p q K G (.cells #[.int .i64 p,.int .i32 q] 208) _ _ hKb.out hGb.out _ rfl;have hk2:=fun q (hq:q<W5.heap.size) h1 h2=>(r3 q (Nat.lt_of_lt_of_le hq hbel.size) h1 h2).trans (hkeep.out q hq h1 h2)
      have hb2:=r4 W5 hbel (by omega);have R1:=Lib.hid r1;have R2:=Lib.hid r2;have HKK:=Lib.hid hk2;have HB2:=Lib.hid hb2;clear r1 r2 hk2 hb2;clear r3 r4
      go_wp2_with fail
      go_roundw
      case rel=>exact⟨j+1,K.set p true,G.set p q,by go_num,by omega,by simp[hKl],by simp[hGl],R1,R2,E1,HKK,HB2.out⟩
      case measure=>simp[intOf];omega
    · rw[if_neg hpc]at e1
      have E1:=Lib.hid e1;clear e1
      go_wp2_with fail
      have hb2:Below (w.heap.size+2) W5 (wr.alloc (.cells #[.int .i64 p,.int .i32 q] 208)):=hbel.alloc (Nat.le_trans (by omega) hbel.size) _;have hA:Below wr.heap.size wr (wr.alloc (.cells #[.int .i64 p,.int .i32 q] 208)):=bal (Below.refl _ _) _;have hKb2:=(hA.block _ (Array.getElem?_eq_some_iff.1 hKb.out).1).trans hKb.out;have hGb2:=(hA.block _ (Array.getElem?_eq_some_iff.1 hGb.out).1).trans hGb.out;have hk2:=fun q (hq:q<W5.heap.size) h1 h2=>(hA.block q (Nat.lt_of_lt_of_le hq hbel.size)).trans (hkeep.out q hq h1 h2)
      have HK2:=Lib.hid hKb2;have HG2:=Lib.hid hGb2;have HKK:=Lib.hid hk2;clear hKb2 hGb2 hk2
      go_roundw
      case rel=>exact⟨j+1,K,G,by go_num,by omega,hKl,hGl,HK2.out,HG2.out,E1.out,HKK.out,hb2⟩
      case measure=>simp[intOf];omega
  · have hjm:j=m:=by omega
    subst hjm;have e1:=hR.out;rw[List.drop_of_length_le (by rw[HM.out];exact Nat.le_refl _),kgF]at e1;subst e1;have hkb:=HKB5.out;have n0':=N0.out;have n1':=N1.out;have l1:=N0.out.lt;have hlw:=hbel.size;have f1:=hkeep.out (w.heap.size+1) l1 (by omega) (by omega);have m0:Live wr (w.heap.size+1) 0 (.int .i64 0):=by unfold Live World.cell? World.frozen? at *;rw[f1];exact n0'
    have m1:Live wr (w.heap.size+1) 1 (.int .i64 0):=by unfold Live World.cell? World.frozen? at *;rw[f1];exact n1'
    have hbw:Below w.heap.size w wr:=HB05.out.trans (hbel.mono (by omega));obtain⟨R,hR⟩:∃R,R=decT (tokS (sgS (K,G))) (bl b):=⟨_,rfl⟩;rw[←hR];clear hkb n0' n1' f1;have hgr:∀i:Nat,0≤G.getD i 0∧G.getD i 0≤1114111:=by
     have:=kgF_bd L HP.out (List.replicate 256 false) (List.replicate 256 0) (by
      intro i;simp only[List.getD,List.getElem?_replicate];split<;>simp)
     rw[←HKG.out]at this;exact this
    have HGR:=Lib.hid hgr;clear hgr;have M0':=Lib.hid m0;have M1':=Lib.hid m1;have HBW':=Lib.hid hbw;have HR:=Lib.hid hR;clear m0 m1 hbw hR;clear hlt hj hR;have hT5:=hKb.out;have hG5:=hGb.out;have KB:=Lib.hid hT5;have GB:=Lib.hid hG5;clear hT5 hG5;clear hKb hGb
    rename World=>W6
    go_wp2_with fail
    go_loopw [10,11] (fun v at_ wr=>∃(f k:Nat) (acc:List UInt8),at_=.int .i64 (k:Int)∧Own wr W6.heap.size v acc∧k≤b.size∧acc.length≤4*k∧b.size-k≤f∧Hid (runT (tokS (sgS (K,G))) f ((bl b).drop k) k acc=R)∧Below W6.heap.size W6 wr) (fun _ at_ _=>b.size-(intOf at_).toNat)
    case atStart=>exact⟨b.size,0,[],rfl,Own.nil _ _,Nat.zero_le _,by simp,by omega,by have:=HR.out;unfold decT at this;rw[HBL.out]at this;rw[List.drop_zero];exact this.symm,Below.refl _ _⟩
    case round=>
     obtain⟨f,k,acc,rfl,hown,hk,ha,hf,hR,hbx⟩:=hrel;by_cases hlt:k<b.size
     · obtain⟨f,rfl⟩:∃g,f=g+1:=⟨f-1,by omega⟩
       have hne:(bl b).drop k ≠ []:=js4 (by rw[HBL.out];exact hlt);obtain⟨x,hx⟩:=jb6 (bl b) k (by rw[HBL.out];exact hlt);have X:∀h,b[k]'h=x:=jc7 b k x hx;have hxl:=x.toNat_lt;have ht:tokS (sgS (K,G)) ((bl b).drop k)=(sgS (K,G) x).map fun t=>(t,1):=by
        rw[jd1 (bl b) k (List.getElem?_eq_some_iff.1 hx).1,(List.getElem?_eq_some_iff.1 hx).2];rfl
       have hkc:wr.cell? ⟨w.heap.size+2,x.toNat,none⟩=some (.bool (K.getD x.toNat false)):=by
        refine kc hbx ?_;rw[cell_of_row _ _ _ _ _ _ KB.out];have:x.toNat<K.length:=by omega
        simp[bcellsB,List.getD,this]
       have hgc:wr.cell? ⟨w.heap.size+3,x.toNat,none⟩=some (.int .i32 (G.getD x.toNat 0)):=by
        refine kc hbx ?_;rw[cell_of_row _ _ _ _ _ _ GB.out];have:x.toNat<G.length:=by omega
        simp[icells,List.getD,this]
       by_cases hkn:K.getD x.toNat false=true
       · have hs:sgS (K,G) x=some (encR (G.getD x.toNat 0)):=if_pos hkn
         rw[hs]at ht;have e1:=jf3 (tok:=tokS (sgS (K,G))) f _ k acc _ _ hne ht;rw[hR.out,List.drop_drop]at e1;have hgr:=HGR.out x.toNat;obtain⟨g,hg⟩:∃g,g=G.getD x.toNat 0:=⟨_,rfl⟩;rw[hkn]at hkc;rw[←hg]at hgc e1 hgr;obtain⟨g0,g1⟩:=hgr;have hel:=jj2 g;have E1:=Lib.hid e1;clear e1;clear hs ht hne hkn hx hg
         go_wp2_with (go_at_call 150;refine(jh0 W6.heap.size _ acc g _ (by omega) (by omega) hown (by omega) hbx.size).mono ?_;rintro e w2 ⟨v',rfl,hown2,hb2⟩)
         exact⟨⟨f,k+1,acc++encR g,by go_num,hown2,by omega,by rw[List.length_append];omega,by omega,Lib.hid E1.out.symm,hbx.trans hb2⟩,by simp[intOf];omega⟩
       · have hkf:K.getD x.toNat false=false:=by simpa using hkn
         have hs:sgS (K,G) x=none:=if_neg hkn;rw[hs]at ht;have e1:=jh1 (tok:=tokS (sgS (K,G))) f _ k acc hne ht;rw[hR.out]at e1;rw[hkf]at hkc;have y0:=M0'.out.keep hbx;have y1:=M1'.out.keep hbx;obtain⟨a1,a2⟩:=y0;obtain⟨a3,a4⟩:=y1;have E1:=Lib.hid e1;clear e1;clear hs ht hne hkn hkf hx
         go_wp2_with fail
         refine bodyPost_ret (v:=.tuple #[.string ⟨#[]⟩,.agg #[.int .i64 2,.int .i64 k]]) (by simp[results,Tryz.results124,go_sem,a1,a2,a3,a4]) rfl ?_;refine(show DecPost _ _ _ _ from⟨?_,?_⟩)
         · rw[←HR.out,E1.out];rfl
         · exact((HBW'.out.trans (hbx.mono HBW'.out.size)).setCell (show w.heap.size≤_ from Nat.le_succ _) _).setCell (show w.heap.size≤_ from Nat.le_succ _) _
     · have hkk:k=b.size:=by omega
       subst hkk;have e1:runT (tokS (sgS (K,G))) f ((bl b).drop b.size) b.size acc=(acc,none):=by
        rw[List.drop_of_length_le (by rw[HBL.out];exact Nat.le_refl _)];exact kg1 f _ acc
       rw[hR.out]at e1;have E1:=Lib.hid e1;obtain⟨a1,a2⟩:=M0'.out.keep hbx;obtain⟨a3,a4⟩:=M1'.out.keep hbx;have hcv:=jq6 hown;clear e1
       go_wp2_with fail
       refine bodyPost_ret (v:=.tuple #[.string ⟨acc.toArray⟩,.agg #[.int .i64 0,.int .i64 0]]) (by simp[results,Tryz.results124,go_sem,a1,a2,a3,a4]) rfl ?_;refine(show DecPost _ _ _ _ from⟨?_,?_⟩)
       · rw[←HR.out,E1.out];rfl
       · exact((HBW'.out.trans (hbx.mono HBW'.out.size)).setCell (show w.heap.size≤_ from Nat.le_succ _) _).setCell (show w.heap.size≤_ from Nat.le_succ _) _
def lsK(L:List (Int×Int))(p:Int):Option Int:=(L.find? fun q=>decide (q.2=p)&&decide (q.1<256)).map (·.1)
theorem lsK_old(L:List (Int×Int))(q:Int×Int)(h:(∃c,lsK L q.2=some c)∨¬q.1<256)(p:Int):lsK (L ++ [q]) p=lsK L p:=by
 unfold lsK at *;rw[List.find?_append];cases hf:L.find? (fun r=>decide (r.2=p)&&decide (r.1<256))with
 | some r=>simp
 | none=>
  have:(decide (q.2=p)&&decide (q.1<256))=false:=by
   rcases h with⟨c,hc⟩|h
   · by_cases e:q.2=p
     · rw[e,hf]at hc;simp at hc
     · simp[e]
   · simp[h]
  simp[List.find?_cons,this]
theorem lsK_new(L:List (Int×Int))(q:Int×Int)(h:lsK L q.2=none)(h2:q.1<256)(p:Int):lsK (L ++ [q]) p=if p=q.2 then some q.1 else lsK L p:=by
 unfold lsK at *;rw[List.find?_append];split
 · rename_i e
   subst e;cases hf:L.find? (fun r=>decide (r.2=q.2)&&decide (r.1<256))with
   | some r=>rw[hf]at h;simp at h
   | none=>simp[List.find?_cons,h2]
 · rename_i e
   have:decide (q.2=p)=false:=by simp;exact fun h=>e h.symm
   cases hf:L.find? (fun r=>decide (r.2=p)&&decide (r.1<256))with
   | some r=>simp
   | none=>simp[List.find?_cons,this]
theorem lsK_bd(L:List (Int×Int))(hL:∀q∈L,0≤q.1)(p c:Int)(h:lsK L p=some c):0≤c∧c<256:=by
 unfold lsK at h;simp only[Option.map_eq_some_iff]at h;obtain⟨q,hq,rfl⟩:=h;have:=List.find?_some hq;simp at this;exact⟨hL q (List.mem_of_find?_eq_some hq),this.2⟩
def MapR(L:List (Int×Int)):Value→Value→Prop:=fun u v=>∃p c,u=.int .i32 p∧v=.int .i64 c∧lsK L p=some c
theorem vb0(L:List (Int×Int))(q:Int×Int)(h:(∃c,lsK L q.2=some c)∨¬q.1<256)(u v:Value):MapR L u v↔MapR (L ++ [q]) u v:=by
 unfold MapR;simp only[lsK_old L q h]
theorem mapR_new(L:List (Int×Int))(q:Int×Int)(h:lsK L q.2=none)(h2:q.1<256)(u v:Value):
 ((u=.int .i32 q.2∧v=.int .i64 q.1)∨(u≠.int .i32 q.2∧MapR L u v))↔MapR (L ++ [q]) u v:=by
 unfold MapR;simp only[lsK_new L q h h2]
 constructor
 · rintro(⟨rfl,rfl⟩|⟨hu,p,c,rfl,rfl,hc⟩)
   · exact⟨_,_,rfl,rfl,by rw[if_pos rfl]⟩
   · exact⟨p,c,rfl,rfl,by rw[if_neg (fun e=>hu (by rw[e]))];exact hc⟩
 · rintro⟨p,c,rfl,rfl,hc⟩
   split at hc
   · rename_i e
     subst e;simp only[Option.some.injEq]at hc;exact .inl ⟨rfl,by rw[hc]⟩
   · rename_i e
     exact .inr ⟨by simp[e],p,c,rfl,rfl,hc⟩
theorem jx2:Maps.Keyed Tryz.prog 21:=Maps.int_keyed Tryz.underlying21
theorem keyR(p:Int)(h0:0≤p)(h1:p≤1114111):keyOf Tryz.prog 21 (.int .i32 p)=some (.int .i32 p):=
 Maps.keyOf_int_mk Tryz.underlying21 (by have e1:IntKind.i32.min = -2147483648:=rfl;have e2:IntKind.i32.max=2147483647:=rfl;simp[Lit.wf];omega)
theorem jp8{P:Program}{ops:Array Oper}{rest:List Oper}{o:Oper}{a:Act}{Q:Exit→Act→World→Prop}(hg:o.guard=none)(t:TypeId)(hop:o.op=Op.makeMap t none)(w:World)
 (h:wpList P ops Q rest (a.put o.dst (.map (some w.heap.size))) (w.alloc (.map #[] 0))):wpList P ops Q (o::rest) a w:=by
 refine wpList_plain hg fun K' hK'=>?_
 unfold Oper.wp;have e1:(Instr.makeMap t none).run P w=.ok (.map (some w.heap.size)) (w.alloc (.map #[] 0)):=rfl;simp[execOp,hop,e1,Result.andThen];exact hK' _ _ h
section
variable {ops:Array Oper} {rest:List Oper} {o:Oper} {a:Act} {Q:Exit→Act→World→Prop}
theorem jr4(w:World)(hg:o.guard=none)(m x:Operand)(hop:o.op=Op.lookup 184 m x true)(b:Nat)(L:List (Int×Int))(p c:Int)(hm:a.eval m=.map (some b))
 (hS:MapS Tryz.prog 21 w b (MapR L)) (hx:a.eval x=.int .i32 p) (h0:0≤p) (h1:p≤1114111) (hc:Hid (lsK L p=some c))
 (h:wpList Tryz.prog ops Q rest (a.put o.dst (.tuple #[.int .i64 c,.bool true])) w):wpList Tryz.prog ops Q (o::rest) a w:=by
 refine jk7 w hg m x _ hop 21 3 jx2 Tryz.underlying184 (.int .i64 0) ?_ b (MapR L) hm hS _ _ hx (keyR p h0 h1) (fun hn=>absurd ⟨p,c,rfl,rfl,hc.out⟩ (hn _)) ?_
 · simp[zeroValue,Tryz.underlying3,go_sem];rfl
 · rintro v ⟨p',c',e,rfl,hc'⟩
   simp only[Value.int.injEq,true_and]at e;subst e;rw[hc.out]at hc';simp only[Option.some.injEq]at hc';subst hc';exact h
theorem jj8(w:World)(hg:o.guard=none)(m x:Operand)(hop:o.op=Op.lookup 184 m x true)(b:Nat)(L:List (Int×Int))(p:Int)(hm:a.eval m=.map (some b))
 (hS:MapS Tryz.prog 21 w b (MapR L)) (hx:a.eval x=.int .i32 p) (h0:0≤p) (h1:p≤1114111) (hc:Hid (lsK L p=none))
 (h:wpList Tryz.prog ops Q rest (a.put o.dst (.tuple #[.int .i64 0,.bool false])) w):wpList Tryz.prog ops Q (o::rest) a w:=by
 refine jk7 w hg m x _ hop 21 3 jx2 Tryz.underlying184 (.int .i64 0) ?_ b (MapR L) hm hS _ _ hx (keyR p h0 h1) (fun _=>h) ?_
 · simp[zeroValue,Tryz.underlying3,go_sem];rfl
 · rintro v ⟨p',c',e,rfl,hc'⟩
   simp only[Value.int.injEq,true_and]at e;subst e;rw[hc.out]at hc';cases hc'
end
def tokE(ls:Int→Option Int):Tok:=fun l=>(ls (dec l).1).map fun c=>([UInt8.ofNat c.toNat],(dec l).2)
def faultE:Option Nat→Value
 | none=>.agg #[.int .i64 0,.int .i64 0]
 | some k=>.agg #[.int .i64 6,.int .i64 k]
def encV(ls:Int→Option Int)(l:List UInt8):Value:=match(scanL l).2 with
 | some k=>.tuple #[.string ⟨#[]⟩,faultV (some k)]
 | none=>.tuple #[.string ⟨(decT (tokE ls) l).1.toArray⟩,faultE (decT (tokE ls) l).2]
def EncPost(r:Value)(w:World)(e:Ending)(w':World):Prop:=e=.returned r∧Below w.heap.size w w'
set_option maxRecDepth 100000 in
theorem qq1(v:Value)(S:List RP)(B:Nat)(c:Int)(b:ByteArray)(w:World)(hT:TW w)(hX:Tab w B v S)(hG:∀r∈S,r.Good)(hl:S.length≤1000)(hb:b.size≤1073741824)
 (hP:∀p∈pairsM S,0≤p.1∧0≤p.2∧p.2≤1114111):
 Calls Tryz.prog 161 #[.agg #[v,.int .i64 c],.string b] w (EncPost (encV (lsK (pairsM S)) (bl b)) w):=by
 obtain⟨a,cp,rfl⟩:=hX.len;have kp:=fun v w h=>qz6 v S B w h hG hl
 obtain⟨L,hL⟩:∃L,L=pairsM S:=⟨_,rfl⟩;rw[←hL]at hP ⊢;have hLl:L.length≤1048576000:=by
  have h1:=jz9 S hG;have h2:=kf9 S hG;rw[hL];omega
 have kp2:∀v w,Tab w B v S→Calls Tryz.prog 149 #[.agg #[v]] w (fun e w'=>∃v',e=.returned v'∧OwnP w' w.heap.size v' L∧Below w.heap.size w w'):=by rw[hL];exact kp
 have k1:=fun w hT=>qn5 b w hT (by omega)
 have k2:=fun a b w=>jb8 a b w
 obtain⟨R,hR⟩:∃R,R=encV (lsK L) (bl b):=⟨_,rfl⟩;rw[←hR];obtain⟨W,hW⟩:∃W,W=(w.alloc (.cells #[.slice a S.length cp,.int .i64 c] 177)).alloc (.cells #[.int .i64 0,.int .i64 0] 54):=⟨_,rfl⟩;have s1:(w.alloc (.cells #[.slice a S.length cp,.int .i64 c] 177)).heap.size=w.heap.size+1:=World.size_alloc _ _;have hWs:W.heap.size=w.heap.size+2:=by rw[hW,World.size_alloc,s1]
 have hbW:Below w.heap.size w W:=by rw[hW];exact bal (bal (Below.refl _ _) _) _
 have m0:Live W (w.heap.size+1) 0 (.int .i64 0):=by rw[hW,←s1];exact Live.fresh _ _ _ 0 _ rfl
 have m1:Live W (w.heap.size+1) 1 (.int .i64 0):=by rw[hW,←s1];exact Live.fresh _ _ _ 1 _ rfl
 have n0:Live W w.heap.size 0 (.slice a S.length cp):=by rw[hW];exact(Live.fresh _ _ _ 0 _ rfl).alloc _
 have hTX:=hX.bel hbW;have hTW:=hT.bel hbW;generalize S.length=n at *;rcases hsc:scanL (bl b)with⟨num,o⟩
 rw[hsc]at k1;simp only at k1;have k3:=fun w hT=>qn3 b w hT (by omega)
 rw[hsc]at k3;simp only at k3;have HT0:=Lib.hid hT;have K3:=Lib.hid k3;have K2P:=Lib.hid kp2;have K1:=Lib.hid k1;have K2:=Lib.hid k2;have HX:=Lib.hid hX;have HTX:=Lib.hid hTX;have HR:=Lib.hid hR;have HL:=Lib.hid hL;have HW:=Lib.hid hW;have HP:=Lib.hid hP;have M0:=Lib.hid m0;have M1:=Lib.hid m1;have N0:=Lib.hid n0;have HTW:=Lib.hid hTW;have HBW:=Lib.hid hbW;have HSC:=Lib.hid hsc;clear hT k3 kp2 k1 k2 hX hTX hR hL hW hP m0 m1 n0 hTW hbW hsc;clear kp s1 hG hl;have HBL:Hid ((bl b).length=b.size):=jb1 b;cases o with
 | some k=>
  simp only[faultV]at K1
  go_enter Tryz.func161,Tryz.ntmps161
  go_wp2_with fail
  rw[←HW.out];refine(K1.out _ HTW.out).mono ?_;rintro e w1 ⟨rfl,hb1⟩
  go_wp2_with (go_at_call 16;refine(K2.out _ _ _).mono ?_;rintro e w2 ⟨rfl,hb2⟩)
  have q0:=(Live.fresh w1 #[.int .i64 2,.int .i64 k] 54 0 _ rfl).keep hb2;have q1:=(Live.fresh w1 #[.int .i64 2,.int .i64 k] 54 1 _ rfl).keep hb2;have p0:=((M0.out.keep hb1).alloc (.cells #[.int .i64 2,.int .i64 k] 54)).keep hb2;have p1:=((M1.out.keep hb1).alloc (.cells #[.int .i64 2,.int .i64 k] 54)).keep hb2;have hl6:w.heap.size+1<w2.heap.size:=p0.lt;have hbw:Below w.heap.size w w2:=HBW.out.trans ((bt (bal (bt (Below.refl _ _) hb1) _) hb2).mono HBW.out.size);clear hb1 hb2;have g0:=fun x:Grown w2=>x.cell q0.1
  have g1:=fun x:Grown w2=>x.cell q1.1
  refine wp_region_grown_tail 2 (by kernel_rfl) (by kernel_rfl) ?_;simp only[List.take_succ_cons,List.take_zero,List.drop_succ_cons,List.drop_zero]
  repeat (first|go_big_quiet_step (fail)|quiet_step (fail))
  refine wpQuiet_nil ?_;intro _ hw';obtain⟨xg,rfl⟩:=hw';obtain⟨a1,a2⟩:=p0.keep xg.bel;obtain⟨a3,a4⟩:=p1.keep xg.bel;have hbx:=hbw.trans (xg.bel.mono hbw.size);clear g0 g1;generalize xg.wd=W at *
  go_wp2_with fail
  refine bodyPost_ret (v:=.tuple #[.string ⟨#[]⟩,.agg #[.int .i64 2,.int .i64 k]]) (by simp[results,Tryz.results161,go_sem,a1,a2,a3,a4]) rfl ?_;refine(show EncPost _ _ _ _ from⟨?_,?_⟩)
  · rw[HR.out,encV,HSC.out];rfl
  · exact(hbx.setCell (show w.heap.size≤_ from Nat.le_succ _) _).setCell (show w.heap.size≤_ from Nat.le_succ _) _
 | none=>
  simp only[faultV]at K1
  go_enter Tryz.func161,Tryz.ntmps161
  go_wp2_with fail
  rw[←HW.out];refine(K1.out _ HTW.out).mono ?_;rintro e w1 ⟨rfl,hb1⟩;have n0':=(((N0.out.keep hb1).alloc (.cells #[.int .i64 0,.int .i64 0] 54))).1;have N0':=Lib.hid n0';clear n0';have hw1:W.heap.size≤w1.heap.size:=hb1.size;have hb01:Below w.heap.size w w1:=HBW.out.trans (hb1.mono HBW.out.size);have hTX1:=HTX.out.bel hb1;have hTW1:=HTW.out.bel hb1;have p0:=M0.out.keep hb1;have p1:=M1.out.keep hb1;have HB01:=Lib.hid hb01;have HTX1:=Lib.hid hTX1;have HTW1:=Lib.hid hTW1;have P0:=Lib.hid p0;have P1:=Lib.hid p1;clear hb01 hTX1 hTW1 p0 p1;clear hb1
  go_wp2_with (first
   | (go_at_call 16;refine(K2.out _ _ _).mono ?_;rintro e w2 ⟨rfl,hb2⟩
      have n0'':=fun O=>kc (bal (Below.refl _ _) O) (kc hb2 N0'.out))
   | (refine jp8 rfl _ rfl _ ?_))
  have hb12:Below w1.heap.size w1 w2:=bt (bal (Below.refl _ _) _) hb2;have hw2:w1.heap.size<w2.heap.size:=by have:=hb2.size;rw[World.size_alloc]at this;omega
  have hb02:Below w.heap.size w w2:=HB01.out.trans (hb12.mono HB01.out.size);have hTX2:=(HTX1.out.bel hb12).bel (bal (Below.refl _ _) (.map #[] 0));have hTW2:=(HTW1.out.bel hb12).bel (bal (Below.refl _ _) (.map #[] 0));have p0:=P0.out.keep hb12;have p1:=P1.out.keep hb12;refine(K2P.out _ _ hTX2).mono ?_;rintro e W5 ⟨v5,rfl,hv5,hb5⟩;have hM0:MapS Tryz.prog 21 W5 w2.heap.size (MapR (L.take 0)):=((MapS.made w2 Tryz.prog 21).congr (by intro u v;simp[MapR,lsK])).bel hb5;have hW5:w2.heap.size+1≤W5.heap.size:=by have:=hb5.size;rw[World.size_alloc]at this;exact this
  have hv5':OwnP W5 (w2.heap.size+1) v5 L:=jc3 hv5 (by rw[World.size_alloc];exact Nat.le_refl _);have hb25:Below w2.heap.size w2 W5:=bt (bal (Below.refl _ _) _) hb5;have hTW5:=hTW2.bel hb5;obtain⟨av,cv,rfl⟩:=jb4 hv5';obtain⟨m,hm⟩:∃m,m=L.length:=⟨_,rfl⟩;rw[←hm]at hLl ⊢;have HB02:=Lib.hid hb02;have P0':=Lib.hid p0;have P1':=Lib.hid p1;have HM0:=Lib.hid hM0;have HV5:=Lib.hid hv5';have HB25:=Lib.hid hb25;have HTW5:=Lib.hid hTW5;have HM:=Lib.hid hm;clear hb02 p0 p1 hM0 hv5' hb25 hTW5 hm;clear hv5 hb5 hTX2 hTW2 hb12 hb2 n0''
  go_wp2_with fail
  go_loopw [27] (fun jv wr=>∃(j:Nat),jv=.int .i64 (j:Int)∧j≤m∧Hid (MapS Tryz.prog 21 wr w2.heap.size (MapR (L.take j))) ∧
   Hid (∀q,q<W5.heap.size→q≠w2.heap.size→wr.heap[q]?=W5.heap[q]?)∧Below w2.heap.size W5 wr) (fun jv _=>m-(intOf jv).toNat)
  case atStart=>exact⟨0,rfl,Nat.zero_le _,HM0,Lib.hid fun _ _ _=>rfl,Below.refl _ _⟩
  case round=>
   obtain⟨j,rfl,hj,hMS,hkeep,hbel⟩:=hrel;by_cases hlt:j<m
   · obtain⟨p,hp⟩:=jb6 L j (by rw[←HM.out];exact hlt)
     obtain⟨p0,p1,p2⟩:=HP.out p (List.mem_of_getElem? hp);obtain⟨g,cap,he,hg4,c0,c1⟩:=qz4 HV5.out j p hp;simp only[Value.slice.injEq]at he;obtain⟨rfl,_,rfl⟩:=he;have e0:wr.heap[g]?=W5.heap[g]?:=hkeep.out g (jd2 c0) (by omega);have d0:wr.cell? ⟨g,j*2,none⟩=some (.int .i64 p.1):=by unfold World.cell? at *;rw[e0];exact c0
     have d1:wr.cell? ⟨g,j*2+1,none⟩=some (.int .i32 p.2):=by unfold World.cell? at *;rw[e0];exact c1
     have htk:L.take (j+1)=L.take j ++ [p]:=by rw[List.take_add_one,hp];rfl
     have hA:=bal (Below.refl wr.heap.size wr) (.cells #[.int .i64 p.1,.int .i32 p.2] 208);have hMA:=hMS.out.bel hA;have hk2:=fun q (hq:q<W5.heap.size) h1=>(hA.block q (Nat.lt_of_lt_of_le hq hbel.size)).trans (hkeep.out q hq h1)
     have hb2:=hbel.alloc (Nat.le_trans (by omega) hbel.size) (.cells #[.int .i64 p.1,.int .i32 p.2] 208);cases hc:lsK (L.take j) p.2 with
     | some c0'=>
      have hM2:=hMA.congr (vb0 _ p (.inl ⟨_,hc⟩));rw[←htk]at hM2;obtain⟨p,q⟩:=p;simp only at p0 p1 p2 d0 d1 hc hMA hk2 hb2 hM2;have HC:=Lib.hid hc;have HMA:=Lib.hid hMA;have HK2:=Lib.hid hk2;have HB2:=Lib.hid hb2;have HM2:=Lib.hid hM2;clear hc hMA hk2 hb2 hM2;clear hp c0 c1 e0 htk hA
      go_wp2_with (at_lookup;refine jr4 _ rfl _ _ rfl w2.heap.size (L.take j) q c0' rfl HMA.out rfl p1 p2 HC ?_)
      go_roundw
      case rel=>exact⟨j+1,by go_num,by omega,HM2,HK2,HB2.out⟩
      case measure=>simp[intOf];omega
     | none=>
      by_cases hpc:p.1<256
      · have hcg:=fun(X:World) (h:MapS Tryz.prog 21 X w2.heap.size (fun u v=>(u=.int .i32 p.2∧v=.int .i64 p.1)∨(u≠.int .i32 p.2∧MapR (L.take j) u v)))=>(h.congr (mapR_new (L.take j) p hc hpc))
        rw[←htk]at hcg;obtain⟨p,q⟩:=p;simp only at p0 p1 p2 d0 d1 hc hMA hk2 hb2 hcg hpc;have hA1:W5.heap.size≤wr.heap.size:=hbel.size;have HC:=Lib.hid hc;have HMA:=Lib.hid hMA;have HK2:=Lib.hid hk2;have HB2:=Lib.hid hb2;have HCG:=Lib.hid hcg;clear hc hMA hk2 hb2 hcg;clear hp c0 c1 e0 htk hA
        go_wp2_with (first
         | (at_lookup;refine jj8 _ rfl _ _ rfl w2.heap.size (L.take j) q rfl HMA.out rfl p1 p2 HC ?_)
         | (at_mapUpdate;(refine jp6 _ rfl _ _ _ 184 rfl 21 3 jx2 Tryz.underlying184 w2.heap.size (MapR (L.take j)) rfl HMA.out (.int .i32 q) (.int .i64 p) (.int .i32 q) rfl rfl (keyR q p1 p2) ?_;intro w6 hM6 hg6)))
        have hM2:=Lib.hid (HCG.out _ hM6);have hb6:Below w2.heap.size W5 w6:=HB2.out.grown hg6 (by rw[World.size_alloc];omega) (by intro k hk;cases hk;exact Nat.le_refl _);have hk6:=fun r (hr:r<W5.heap.size) h1=>(hg6.block r (by rw[World.size_alloc];omega) (fun e=>h1 (Option.some.inj e))).trans (HK2.out r hr h1)
        have HK6:=Lib.hid hk6;clear hk6
        go_roundw
        case rel=>exact⟨j+1,by go_num,by omega,hM2,HK6,hb6⟩
        case measure=>simp[intOf];omega
      · have hM2:=hMA.congr (vb0 _ p (.inr hpc))
        rw[←htk]at hM2;obtain⟨p,q⟩:=p;simp only at p0 p1 p2 d0 d1 hc hMA hk2 hb2 hM2 hpc;have HC:=Lib.hid hc;have HMA:=Lib.hid hMA;have HK2:=Lib.hid hk2;have HB2:=Lib.hid hb2;have HM2:=Lib.hid hM2;clear hc hMA hk2 hb2 hM2;clear hp c0 c1 e0 htk hA
        go_wp2_with (at_lookup;refine jj8 _ rfl _ _ rfl w2.heap.size (L.take j) q rfl HMA.out rfl p1 p2 HC ?_)
        go_roundw
        case rel=>exact⟨j+1,by go_num,by omega,HM2,HK2,HB2.out⟩
        case measure=>simp[intOf];omega
   · have hjm:j=m:=by omega
     subst hjm
     rename World=>W6
     have hMS:=hMS.out;rw[HM.out,List.take_length]at hMS;have l1:=P0'.out.lt;have hq0:=P0'.out.keep HB25.out;have hq1:=P1'.out.keep HB25.out;have f1:=hkeep.out (w.heap.size+1) hq0.lt (by omega);have r0:Live W6 (w.heap.size+1) 0 (.int .i64 0):=by unfold Live World.cell? World.frozen? at *;rw[f1];exact hq0
     have r1:Live W6 (w.heap.size+1) 1 (.int .i64 0):=by unfold Live World.cell? World.frozen? at *;rw[f1];exact hq1
     have hbw6:Below w.heap.size w W6:=HB02.out.trans ((HB25.out.trans hbel).mono HB02.out.size);have hT6:=HT0.out.bel hbw6;have R0:=Lib.hid r0;have R1:=Lib.hid r1;have HBW6:=Lib.hid hbw6;have HT6:=Lib.hid hT6;have HMS:=Lib.hid hMS;clear r0 r1 hbw6 hT6 hMS;clear hq0 hq1 f1 hlt hj hkeep;have hn:num≤b.size:=by
      have:=qz1 (bl b).length (bl b) 0 0;have e:=HSC.out;unfold scanL at e;rw[e,HBL.out]at this;simpa using this
     obtain⟨i0,hi,hz0,hz1,hz2⟩:=info_parts infoByte
     go_wp2_with (first
      | (go_at_call 183;refine(K3.out _ HT6.out).mono ?_;rintro e w7 ⟨rfl,hb7⟩)
      | (refine wpList_make_own _ rfl _ _ 140 rfl _ 5 i0 (.int .u8 0) 1 Tryz.underlying140 hi hz0 hz1 .i64 .i64 (num:Int) num rfl rfl rfl (by rw[hz2];omega) (by unfold maxLen;omega) (Nat.le_refl _) ?_;intro W8 hown hgrow))
     have hbel8:Below w7.heap.size w7 W8:=(Below.refl _ _).grown hgrow (Nat.le_refl _) (by intro k hk;cases hk);have hl67:W6.heap.size≤w7.heap.size:=hb7.size;have hl26:w2.heap.size<W6.heap.size:=HMS.out.lt;have hl78:w7.heap.size≤W8.heap.size:=hbel8.size;have hb68:Below W6.heap.size W6 (W8.iter b 0):=(bt hb7 hbel8).alloc (by omega) _;have hown0:Own (W8.iter b 0) w7.heap.size (.slice (some ⟨w7.heap.size,0,none⟩) 0 num) []:=Own.bel hown ((Below.refl _ _).alloc (Nat.le_refl _) _);have hI0:=ItS.made W8 b;have r0:=R0.out.keep hb68;have r1:=R1.out.keep hb68;have hMS0:=HMS.out.bel hb68;have hbw0:Below w.heap.size w (W8.iter b 0):=HBW6.out.trans (hb68.mono HBW6.out.size);have hl0:W8.heap.size<(W8.iter b 0).heap.size:=hI0.lt;have hR2:R=.tuple #[.string ⟨(decT (tokE (lsK L)) (bl b)).1.toArray⟩,faultE (decT (tokE (lsK L)) (bl b)).2]:=by rw[HR.out,encV,HSC.out]
     obtain⟨D,hD⟩:∃D,D=decT (tokE (lsK L)) (bl b):=⟨_,rfl⟩;rw[←hD]at hR2;have hLP:Hid (∀p c,lsK L p=some c→0≤c∧c<256):=Lib.hid (lsK_bd L fun q hq=>(HP.out q hq).1);generalize W8.iter b 0=W0 at *;generalize W8.heap.size=r at *;have R0':=Lib.hid r0;have R1':=Lib.hid r1;have HMS0:=Lib.hid hMS0;have HBW0:=Lib.hid hbw0;have HR2:=Lib.hid hR2;have HD:=Lib.hid hD;clear r0 r1 hMS0 hbw0 hR2 hD;clear hgrow hbel8 hb68 hb7 hown
     go_loopw [12] (fun v wr=>∃(f k:Nat) (acc:List UInt8),Own wr w7.heap.size v acc∧ItS wr r b k∧k≤b.size∧acc.length≤k∧b.size-k≤f∧Hid (runT (tokE (lsK L)) f ((bl b).drop k) k acc=D)∧Below w7.heap.size W0 wr) (fun _ wr=>b.size-wr.iterPos r)
     case atStart=>exact⟨b.size,0,[],hown0,hI0,Nat.zero_le _,Nat.le_refl _,by omega,by have:=HD.out;unfold decT at this;rw[HBL.out]at this;rw[List.drop_zero];exact Lib.hid this.symm,Below.refl _ _⟩
     case round=>
      obtain⟨f,k,acc,hown,hI,hk,hacc,hf,hRT,hbel⟩:=hrel;have hne:=hI.ne hown;have hpos:=hI.pos;have hown3:∀w':World,(∀j,j≠r→w'.heap[j]?=wr.heap[j]?)→w'.ownsRow w7.heap.size 5 1 _ acc.length (bcells acc):=fun w' h=>jb5 hown (fun q hq=>h q (fun e=>hne (by rw[hq,e])))
      have hMw:MapS Tryz.prog 21 wr w2.heap.size (MapR L):=HMS0.out.blk (hbel.block _ (by omega));have hsz:=hbel.size;have HPOS:=Lib.hid hpos;have HNE:=Lib.hid hne;have HO3:=Lib.hid hown3;clear hpos hne hown3;clear hI0 hown0;by_cases hlt:k<b.size
      · obtain⟨f,rfl⟩:∃g,f=g+1:=⟨f-1,by omega⟩
        rcases hd:dec ((bl b).drop k)with⟨p,j⟩
        have hdp:=jg2 ((bl b).drop k);have hdr:=jz2 ((bl b).drop k);have hne2:(bl b).drop k ≠ []:=js4 (by rw[HBL.out];exact hlt);have hdl:=jz3 _ hne2;have ht:tokE (lsK L) ((bl b).drop k)=(lsK L ((dec ((bl b).drop k)).1:Nat)).map fun c=>([UInt8.ofNat c.toNat],(dec ((bl b).drop k)).2):=rfl
        rw[List.length_drop,HBL.out]at hdl;rw[hd]at hdp hdr hdl ht;simp only at hdp hdr hdl ht;cases hc:lsK L (p:Nat)with
        | none=>
         rw[hc]at ht;have e1:=jh1 (tok:=tokE (lsK L)) f _ k acc hne2 ht;rw[hRT.out]at e1;have hM3:∀w':World,(∀j,j≠r→w'.heap[j]?=wr.heap[j]?)→MapS Tryz.prog 21 w' w2.heap.size (MapR L):=fun w' h=>hMw.blk (h _ (by omega))
         have y0:∀w':World,(∀j,j≠r→w'.heap[j]?=wr.heap[j]?)→Live w' (w.heap.size+1) 0 (.int .i64 0):=fun w' h=>by
          have:=R0'.out;have e:=(h (w.heap.size+1) (by omega)).trans (hbel.block _ (by omega));unfold Live World.cell? World.frozen? at *;rw[e];exact this
         have y1:∀w':World,(∀j,j≠r→w'.heap[j]?=wr.heap[j]?)→Live w' (w.heap.size+1) 1 (.int .i64 0):=fun w' h=>by
          have:=R1'.out;have e:=(h (w.heap.size+1) (by omega)).trans (hbel.block _ (by omega));unfold Live World.cell? World.frozen? at *;rw[e];exact this
         have E1:=Lib.hid e1;have HDC:=Lib.hid hd;have HC:=Lib.hid hc;have HM3:=Lib.hid hM3;have Y0:=Lib.hid y0;have Y1:=Lib.hid y1;clear e1 hd hc hM3 y0 y1;clear ht hne2 hRT hMw
         go_wp2_with (first
          | (at_next;refine jd8 rfl _ rfl wr r b k rfl hI hlt p j HDC ?_;intro w3 hI3 ho3 hg3;obtain⟨a1,a2⟩:=Y0.out w3 ho3;obtain⟨a3,a4⟩:=Y1.out w3 ho3)
          | (at_lookup;refine jj8 w3 rfl _ _ rfl w2.heap.size L p rfl (HM3.out w3 ho3) rfl (by omega) (by omega) HC ?_))
         have hbx:Below w.heap.size w w3:=(HBW0.out.trans (hbel.mono (by omega))).grown hg3 (by omega) (by intro q hq;cases hq;omega);refine bodyPost_ret (v:=.tuple #[.string ⟨#[]⟩,.agg #[.int .i64 6,.int .i64 k]]) (by simp[results,Tryz.results161,go_sem,a1,a2,a3,a4]) rfl ?_;refine(show EncPost _ _ _ _ from⟨?_,?_⟩)
         · rw[HR2.out,E1.out];rfl
         · exact(hbx.setCell (show w.heap.size≤_ from Nat.le_succ _) _).setCell (show w.heap.size≤_ from Nat.le_succ _) _
        | some c=>
         rw[hc]at ht;obtain⟨c0,c1⟩:=hLP.out _ _ hc;obtain⟨c,rfl⟩:=Int.eq_ofNat_of_zero_le c0;have e1:=jf3 (tok:=tokE (lsK L)) f _ k acc _ _ hne2 ht;rw[hRT.out,List.drop_drop,Int.toNat_natCast]at e1;have hM3:∀w':World,(∀j,j≠r→w'.heap[j]?=wr.heap[j]?)→MapS Tryz.prog 21 w' w2.heap.size (MapR L):=fun w' h=>hMw.blk (h _ (by omega))
         have hwrap:IntKind.u8.wrap (c:Int)=(c:Int):=wraps_u8 _ c0 (by omega);have hcu:(UInt8.ofNat c).toNat=c:=by rw[UInt8.toNat_ofNat'];omega
         have E1:=Lib.hid e1;have HDC:=Lib.hid hd;have HC:=Lib.hid hc;have HM3:=Lib.hid hM3;have HCU:=Lib.hid hcu;clear e1 hd hc hM3 hcu;clear ht hne2 hRT hMw
         go_wp2_with (first
          | (at_next;refine jd8 rfl _ rfl wr r b k rfl hI hlt p j HDC ?_;intro w3 hI3 ho3 hg3)
          | (at_lookup;refine jr4 w3 rfl _ _ rfl w2.heap.size L p c rfl (HM3.out w3 ho3) rfl (by omega) (by omega) HC ?_)
          | (at_builtin;(refine jc4 rfl _ _ 140 5 rfl Tryz.underlying140 (.int .u8 0) 1 1 infoByte rfl (by decide) w3 w7.heap.size u12 acc.length (bcells acc) rfl (HO3.out w3 ho3) #[.int .u8 (c:Int)] rfl (by simp[Value.oneCell']) rfl (by omega) (by omega) (by have:=hg3.size;omega) ?_;intro v' w4 hown4 hb4 hk4)))
         have hne4:some r≠_:=HNE.out;have hI4:=hI3.blk (hk4 r hI3.lt hne4);have hbw4:Below w7.heap.size W0 w4:=(hbel.grown hg3 (by omega) (by intro q hq;cases hq;exact hl78)).trans hb4;have hp4:=hI4.pos;have hown5:Own w4 w7.heap.size v' (acc ++ [UInt8.ofNat c]):=by
          unfold Own;rw[jj5,List.length_append,show bcells [UInt8.ofNat c] = [.int .u8 (c:Int)] by simp only[bcells,List.map_cons,List.map_nil,HCU.out]];exact hown4
         exact⟨⟨f,k+j,acc ++ [UInt8.ofNat c],hown5,hI4,by omega,by rw[List.length_append];simp;omega,by omega,Lib.hid E1.out.symm,hbw4⟩,by rw[HPOS.out,hp4];omega⟩
      · have hkk:k=b.size:=by omega
        subst hkk;have e1:runT (tokE (lsK L)) f ((bl b).drop b.size) b.size acc=(acc,none):=by
         rw[List.drop_of_length_le (by rw[HBL.out];exact Nat.le_refl _)];exact kg1 f _ acc
        rw[hRT.out]at e1;have E1:=Lib.hid e1;have hbf:=hbel.block (w.heap.size+1) (by omega);obtain⟨a1,a2⟩:Live wr (w.heap.size+1) 0 (.int .i64 0):=by
         have:=R0'.out;unfold Live World.cell? World.frozen? at *;rw[hbf];exact this
        obtain⟨a3,a4⟩:Live wr (w.heap.size+1) 1 (.int .i64 0):=by
         have:=R1'.out;unfold Live World.cell? World.frozen? at *;rw[hbf];exact this
        have hcv:=jq6 hown;have hbx:Below w.heap.size w wr:=HBW0.out.trans (hbel.mono (by omega));clear e1 hbf hMw
        go_wp2_with (at_next;refine jk6 rfl _ rfl wr r b b.size rfl hI (Nat.le_refl _) ?_)
        refine bodyPost_ret (v:=.tuple #[.string ⟨acc.toArray⟩,.agg #[.int .i64 0,.int .i64 0]]) (by simp[results,Tryz.results161,go_sem,a1,a2,a3,a4]) rfl ?_;refine(show EncPost _ _ _ _ from⟨?_,?_⟩)
        · rw[HR2.out,E1.out];rfl
        · exact(hbx.setCell (show w.heap.size≤_ from Nat.le_succ _) _).setCell (show w.heap.size≤_ from Nat.le_succ _) _
end Go.Proofs.YtagjkmkmphamoaaGreatDoor
