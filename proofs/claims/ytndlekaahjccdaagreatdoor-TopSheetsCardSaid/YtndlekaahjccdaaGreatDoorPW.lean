/- PW -/
import Derived.Test.YtndlekaahjccdaaGreatDoorPV
set_option linter.all false
set_option maxRecDepth 100000
set_option maxHeartbeats 40000000
namespace Go.Proofs.YtndlekaahjccdaaGreatDoor
section
open Go Go.Rf Go.RowKit Go.Proofs.Tryz
theorem y3Z{σ:Type}{X:(σ×List Pc) ⊕ Nat}{l:List Pc}(h:outP X=.inl l):∃st,X=.inl (st,l):=by
 cases X with
 | inl p=>obtain⟨st,l'⟩:=p;cases h;exact⟨st,rfl⟩
 | inr a=>cases h
theorem yE0{b:ByteArray}{l:List Pc}(h:srtM b=.inl l):∃st,walkS srtS b 0 [] (lnF (bl b) 0)=.inl (st,l):=by
 unfold srtM at h;split at h
 . split at h
   . cases h
   . rename_i st l' hx _
     cases h;exact⟨st,hx⟩
 . cases h
theorem yGn(k:Nat)(b:ByteArray)(l:List Pc)(h:txM k b=.inl l):whL l=bl b:=by
 have base:∀ {σ:Type} (step:σ->ByteArray->Option (σ×List Pc)) (hW:Whole step) (st0 st:σ),walkS step b st0 [] (lnF (bl b) 0)=.inl (st,l)->whL l=bl b:=fun step hW st0 st h=>
  y4q hW b b.size 0 st0 [] st l (Nat.sub_le _ _) zD (yFq b 0).symm h
 unfold txM at h;split at h
 . obtain⟨st,h⟩:=y3Z h;exact base _ yGE _ _ h
 . split at h
   . obtain⟨st,h⟩:=yE0 h;exact base _ yDw _ _ h
   . split at h
     . obtain⟨st,h⟩:=y3Z h;exact base _ yDu _ _ h
     . obtain⟨st,h⟩:=y3Z h;exact base _ yFC _ _ h
theorem y85{σ:Type}{step:σ->ByteArray->Option (σ×List Pc)}(h:∀st s st' ps,step st s=some (st',ps)->ps.length<=2*s.size)(b:ByteArray):∀(n a:Nat) (st:σ) (acc:List Pc) (st':σ) (l:List Pc),b.size-a<=n->a<=b.size->acc.length<=3*a ->
 walkS step b st acc (lnF (bl b) a)=.inl (st',l)->l.length<=3*b.size
 | n,a,st,acc,st',l,hn,ha,hw,he=>by
  have hL:=zJ b;by_cases H6:a<b.size
  . rw[zq (bl b) a (by omega)]at he
    have e1:=y20 (bl b) a;have e2:=y2g (bl b) a (by omega);have e3:=y3C (bl b) (nxE (bl b) a);have e4:=y41 (bl b) _ e2;have e5:=y5J (bl b) a (by omega);generalize nxE (bl b) a=E at *;generalize nxB (bl b) E=D at *;unfold walkS at he;cases hs:step st (b.extract a E)with
    | none=>rw[hs]at he;cases he
    | some p=>
     obtain⟨st2,ps⟩:=p;rw[hs]at he;simp only at he;have hp:=h _ _ _ _ hs;rw[zG]at hp;have H5:(acc++ps++(if E<D then [mkP (b.extract E D)]else [])).length<=3*D:=by
      rw[zH,zH];split
      . simp;omega
      . simp;omega
     match n,hn with
     | 0,hn=>omega
     | n+1,hn=>exact y85 h b n D st2 _ st' l (by omega) (by omega) H5 he
  . rw[y0u (bl b) a (by omega)]at he
    cases he;omega
theorem tx_len(k:Nat)(b:ByteArray)(l:List Pc)(h:txM k b=.inl l):l.length<=3*b.size:=by
 have base:∀ {σ:Type} (step:σ->ByteArray->Option (σ×List Pc)) (hW:∀st s st' ps,step st s=some (st',ps)->ps.length<=2*s.size) (st0 st:σ),walkS step b st0 [] (lnF (bl b) 0)=.inl (st,l)->l.length<=3*b.size:=fun step hW st0 st h=>
  y85 hW b b.size 0 st0 [] st l (Nat.sub_le _ _) zD zD h
 unfold txM at h;split at h
 . obtain⟨st,h⟩:=y3Z h;exact base _ (fun st s st' ps h=>by unfold cueS at h;split at h<;>cases h;exact y7v s) _ _ h
 . split at h
   . obtain⟨st,h⟩:=yE0 h;exact base _ yDz _ _ h
   . split at h
     . obtain⟨st,h⟩:=y3Z h;exact base _ y9Z _ _ h
     . obtain⟨st,h⟩:=y3Z h;exact base _ yA5 _ _ h
abbrev fK(f:Int):Array Value:=#[.int .i64 f,.int .i64 0]
theorem yIe(f:Int):(Tryz.prog.info? 40).map (·.size)=some (fK f).size:=by show _=some 2;kernel_rfl
theorem fKOne(f:Int):(fK f).all (·.oneCell')=true:=by kernel_rfl
theorem yI6(w:World)(z:Array Value)(f:Int):((w.alloc (.cells z 40)).setRow w.heap.size (fK f)).heap[w.heap.size]?=some (.cells (fK f) 40 (0,0))/\Below w.heap.size w ((w.alloc (.cells z 40)).setRow w.heap.size (fK f)):=
 ⟨setRow_heap _ _ _ _ _ _ (heap_alloc_new _ _),below_setRow (bal z8 _) _ zA _⟩
theorem yFm{w:World}{b:Nat}{f:Int}(h:w.heap[b]?=some (.cells (fK f) 40 (0,0))):w.cell? ⟨b,0,none⟩=some (.int .i64 f)/\w.cell? ⟨b,1,none⟩=some (.int .i64 0):=⟨(zL h 0 _ rfl).1,(zL h 1 _ rfl).1⟩
theorem y7i(w:World)(T:Array Value):((w.alloc (.cells trZ 90)).alloc (.cells faZ 40)).heap[w.heap.size]?=some (.cells trZ 90 (0,0))/\((((w.alloc (.cells trZ 90)).alloc (.cells faZ 40)).setRow w.heap.size T)).heap[w.heap.size+1]?=some (.cells faZ 40 (0,0)) /\
 ((((w.alloc (.cells trZ 90)).alloc (.cells faZ 40)).setRow w.heap.size T).setRow (w.heap.size+1) faZ).heap[w.heap.size]?=some (.cells T 90 (0,0))/\((((w.alloc (.cells trZ 90)).alloc (.cells faZ 40)).setRow w.heap.size T).setRow (w.heap.size+1) faZ).heap[w.heap.size+1]?=some (.cells faZ 40 (0,0)) /\
 Below w.heap.size w ((((w.alloc (.cells trZ 90)).alloc (.cells faZ 40)).setRow w.heap.size T).setRow (w.heap.size+1) faZ):=by
 have H5:(w.alloc (.cells trZ 90)).heap.size=w.heap.size+1:=Y4 _ _;have h1:((w.alloc (.cells trZ 90)).alloc (.cells faZ 40)).heap[w.heap.size]?=some (.cells trZ 90 (0,0)):=(heap_alloc_old _ _ (by rw[H5];omega)).trans (heap_alloc_new _ _);have h2:((w.alloc (.cells trZ 90)).alloc (.cells faZ 40)).heap[w.heap.size+1]?=some (.cells faZ 40 (0,0)):=by rw[<-H5];exact heap_alloc_new _ _
 have h3:=(setRow_other ((w.alloc (.cells trZ 90)).alloc (.cells faZ 40)) w.heap.size (w.heap.size+1) T (by omega)).trans h2;refine⟨h1,h3,(setRow_other _ _ _ _ (by omega)).trans (setRow_heap _ _ _ _ _ _ h1),setRow_heap _ _ _ _ _ _ h3,below_setRow (below_setRow (bal (bal z8 _) _) _ zA _) _ (Nat.le_succ _) _⟩
theorem yEU(t:ByteArray)(h:(scanL (bl t)).2=none)(hb:Lib.hasPrefix (bl t) [239,187,191]=false):ptR t true=.tuple #[.string t,.agg (fK 0)]:=by
 unfold ptR;rw[h,if_neg (by decide),if_neg (by decide),hb,if_neg (by decide)]
structure NF (w:World) (o:Opt) (wr:World):Prop where
 gg:Below w.heap.size w wr
 ob:wr.heap[w.heap.size]?=some (.cells o.c 25 (0,0))
 rt:wr.heap[w.heap.size+1]?=some (.cells faZ 40 (0,0))
theorem NF.bel{w wr:World}{o:Opt}(h:NF w o wr){w':World}(hb:Below wr.heap.size wr w'):NF w o w':=⟨bt h.gg hb,blkQ h.ob hb,blkQ h.rt hb⟩
theorem NF.big{w wr:World}{o:Opt}(h:NF w o wr):w.heap.size+2<=wr.heap.size:=lt_of_block h.rt
theorem NF.setRow{w wr:World}{o:Opt}(h:NF w o wr){g:Nat}(hp:w.heap.size+2<=g)(x:Array Value):NF w o (wr.setRow g x):=
 ⟨below_setRow h.gg _ (by omega) _,(setRow_other _ _ _ _ (by omega)).trans h.ob,(setRow_other _ _ _ _ (by omega)).trans h.rt⟩
theorem NF.opt{w wr:World}{o:Opt}(h:NF w o wr):wr.cell? ⟨w.heap.size,0,none⟩=some (.int .i64 (o.k:Int))/\wr.cell? ⟨w.heap.size,1,none⟩=some (.int .i64 o.fb)/\wr.cell? ⟨w.heap.size,2,none⟩=some (.bool o.g)/\wr.cell? ⟨w.heap.size,3,none⟩=some (.int .i64 o.bu):=
 ⟨(zL h.ob 0 _ rfl).1,(zL h.ob 1 _ rfl).1,(zL h.ob 2 _ rfl).1,(zL h.ob 3 _ rfl).1⟩
theorem yHe(w:World)(o:Opt):∃W,W=(w.alloc (.cells o.c 25)).alloc (.cells faZ 40)/\NF w o W:=by
 have H5:(w.alloc (.cells o.c 25)).heap.size=w.heap.size+1:=Y4 _ _;refine⟨_,rfl,bal (bal z8 _) _,(heap_alloc_old _ _ (by rw[H5];omega)).trans (heap_alloc_new _ _),?_⟩;rw[<-H5];exact heap_alloc_new _ _
theorem yEy(o:Opt)(Hf:4<=o.k)(He:o.k<8)(Hb:o.bu=0)(Ha:rigB (o.k:Int) o.fb o.bu=true)(l:List Pc)(c:Int)(S t:ByteArray)(w:World)(hG:GW w)(hS:S.size<=1000000)(hs:t.size<=999990)(hx:txM o.k t=.inl l)(hv:(scanL (bl t)).2=none)(hb:Lib.hasPrefix (bl t) [239,187,191]=false)(hl:l.length<=10000000)
 (kp:∀w',GW w'->Calls prog 39 #[.string S,.agg o.c] w' (FReadG l (o.k:Int) c w')):
 Calls prog 20 #[.string S,.agg o.c] w fun e w'=>e=.returned (.tuple #[.string t,.agg #[.int .i64 0,.int .i64 0]])/\Below w.heap.size w w':=by
 obtain⟨W,hW,C⟩:=yHe w o;have kr:=fun w'=>y56 (o.k:Int) o.fb o.g o.bu w'
 rw[Ha]at kr;have H9:=yGn o.k t l hx;have kpr:∀w' v,GW w'->Row w' v l.length (pcC l)->Calls prog 40 #[.agg (treeA (o.k:Int) v c)] w' fun e w''=>e=.returned (.tuple #[.string t,.agg (fK 0)])/\Below w'.heap.size w' w'':=fun w' v hg hr=>by
  have:=yCD o.k Hf He v c l l w' hg hr t H9.symm hs hl hl hx (.inl rfl)
  rwa [decide_eq_true rfl,yEU t hv hb]at this
 have KB0:Hid (∀w',Calls prog 11 #[.agg #[.int .i64 0,.int .i64 0]] w' fun e w''=>e=.returned (.bool false)/\Below w'.heap.size w' w''):=z7 (fun w'=>y4f 0 0 w');obtain⟨d0,d1,d2,d3⟩:=C.opt;have KP:=z7 kp;have KR:=z7 kr;have KPR:=z7 kpr;have KW:=z7 hW;have HC:=z7 C;have HG:=z7 hG;have g1:¬(268435456:Int)<(S.size:Int):=by omega
 have g2:¬(268435456:Int)<(t.size:Int):=by omega
 have Hn:=z7 Hb;clear Ha H9 kr kpr hx hv hb hG C hW kp Hb
 go_enter func20,ntmps20
 go_upto_region 1 with fail
 rw[<-KW.out]
 go_upto_region 6 with(first
  | (go_at_call 6;(with_reducible refine(KR.out W).mono ?_);rintro e w1 ⟨rfl,Hh⟩;have C1:=HC.out.bel Hh;obtain⟨f0,f1,f2,f3⟩:=C1.opt)
  | (go_at_call 39;(with_reducible refine(KP.out _ (HG.out.bel C1.gg)).mono ?_);rintro e w2 ⟨u,rfl,hu,Hd⟩;obtain⟨ua,uc,rfl⟩:=zN hu)
  | (refine Go.wpList_store_row rfl 90 _ _ rfl w2.heap.size (treeA (o.k:Int) (.slice ua l.length uc) c) rfl rfl 90 _ (y7i w2 #[]).1 (infoTr _ _ _) rfl (y3R _ _ _ _ _) ?_)
  | (refine Go.wpList_store_row rfl 40 _ _ rfl (w2.heap.size+1) faZ rfl rfl 40 faZ (y7i w2 _).2.1 infoFa rfl faOne ?_))
 obtain⟨_,_,H8,H5,H6⟩:=y7i w2 (treeA (o.k:Int) (.slice ua l.length uc) c);obtain⟨Z,hZ⟩:∃Z,Z=((((w2.alloc (.cells trZ 90)).alloc (.cells faZ 40)).setRow w2.heap.size (treeA (o.k:Int) (.slice ua l.length uc) c)).setRow (w2.heap.size+1) faZ):=⟨_,rfl⟩;rw[<-hZ]at H8 H5 H6 ⊢;have C2:=C1.bel Hd;have CZ:=C2.bel H6;have Ho:=C2.big;have Hk:=z7 (y01 (zK hu H6));obtain⟨m0,m1⟩:=yFm (f:=0) H5;have Hl:=z7 CZ;have Hi:=z7 H8;have Hj:=z7 H5;clear hZ H6 hu Hd C1 C2 CZ H8 H5
 go_upto_region 9 with(first
  | (go_at_call 11;refine(KB0.out _).mono ?_;rintro e w4 ⟨rfl,H7⟩;have C4:=Hl.out.bel H7;have zt4:=blkQ Hi.out H7)
  | (refine wpList_load_row rfl 90 _ rfl w2.heap.size rfl 90 _ (0,0) _ zt4 underlying90 rfl (infoTr _ _ _) ?_)
  | (go_at_call 40;refine(KPR.out _ _ (HG.out.bel C4.gg) (Hk.out.keep H7)).mono ?_;rintro e w5 ⟨rfl,Hc⟩;have C5:=C4.bel Hc;have zf5:=blkQ (blkQ Hj.out H7) Hc)
  | (refine Go.wpList_store_row rfl 40 _ _ rfl (w2.heap.size+1) (fK 0) rfl rfl 40 _ zf5 (yIe _) rfl (fKOne _) ?_))
 have C6:=C5.setRow (g:=w2.heap.size+1) (by omega) (fK 0);have zf6:=setRow_heap _ _ _ (fK 0) _ _ zf5;obtain⟨Y,hY⟩:∃Y,Y=w5.setRow (w2.heap.size+1) (fK 0):=⟨_,rfl⟩;rw[<-hY]at C6 zf6 ⊢;obtain⟨p0,p1⟩:=yFm (f:=0) zf6;have Hm:=z7 C6;clear hY zf6 C5 C4 zt4 zf5 C6
 go_wp2_with (go_at_call 11;refine(KB0.out _).mono ?_;rintro e w7 ⟨rfl,Hg⟩;have C7:=Hm.out.bel Hg;obtain⟨h0,h1,h2,h3⟩:=C7.opt;rw[Hn.out]at h3;obtain⟨r0,r0'⟩:=zL C7.rt 0 _ rfl;obtain⟨r1,r1'⟩:=zL C7.rt 1 _ rfl)
 refine bodyPost_ret (v:=.tuple #[.string t,.agg #[.int .i64 0,.int .i64 0]]) (by simp[results,results20,go_sem,r0,r1,r0',r1']) rfl ?_;exact⟨rfl,(C7.gg.setCell (p:=⟨w.heap.size+1,0,none⟩) (Nat.le_succ _) _).setCell (p:=⟨w.heap.size+1,1,none⟩) (Nat.le_succ _) _⟩
end
section
open Go.RowKit Go.Proofs.Tryz
theorem y0c(x:UInt8)(n:Nat)(hn:n<256)(h:x≠UInt8.ofNat n):¬(x.toNat:Int)=(n:Int):=by
 intro e;apply h;apply UInt8.toNat_inj.1;rw[UInt8.toNat_ofNat'];omega
def wdK(l:List UInt8)(k:Nat):Bool:=match l[k]? with|some c=>(c==32&&decide (0<k)) || cpB c|none=>true
theorem yIs:∀(l:List UInt8),y0F l=((List.range l.length).all (wdK l) && !l.isEmpty)
 | []=>rfl
 | c::r=>by
  rw[List.length_cons,List.range_succ_eq_map,List.all_cons,List.all_map];have h1:wdK (c::r) 0=cpB c:=by simp[wdK]
  have h2:(List.range r.length).all (wdK (c::r) ∘ Nat.succ)=r.all (fun c=>c==32 || cpB c):=by
   have:∀k,(wdK (c::r) ∘ Nat.succ) k=(match r[k]? with|some c=>c==32 || cpB c|none=>true):=fun k=>by
    simp[wdK]
   rw[funext this];clear this h1
   induction r with
   | nil=>rfl
   | cons d r ih=>
    rw[List.length_cons,List.range_succ_eq_map,List.all_cons,List.all_map,List.all_cons,<-ih];rfl
  rw[h1,h2];simp[y0F]
theorem wdK_at(l:List UInt8)(k:Nat)(c:UInt8)(hc:l[k]?=some c):wdK l k=((c==32&&decide (0<k)) || cpB c):=by unfold wdK;rw[hc]
theorem yCN(b:ByteArray)(w:World)(hs:b.size<=1000000):Calls prog 80 #[.string b] w fun e w'=>e=.returned (.bool (y0F (bl b)))/\Below w.heap.size w w':=by
 have HL:Hid ((bl b).length=b.size):=zJ b;have HA:=z7 (yIs (bl b));have K1:=z7 y7J
 go_enter func80,ntmps80
 go_wp2
 go_loopw [3,4] (fun s i wr=>∃k:Nat,i=.int .i64 (k:Int)/\s=.bool (decide (0<k))/\k<=b.size/\Hid ((List.range k).all (wdK (bl b))=true)/\wr=w) (fun _ i _=>b.size-(intOf i).toNat)
 case atStart=>exact⟨0,rfl,rfl,zD,z7 rfl,rfl⟩
 case round=>
  obtain⟨k,rfl,rfl,hk,hR,rfl⟩:=hrel;by_cases H6:k<b.size
  . obtain⟨x,hx⟩:=zM (bl b) k (by rw[HL.out];exact H6)
    have X:∀h,b[k]'h=x:=zS b k x hx;have H9:=x.toNat_lt;obtain⟨h1,h2⟩:=y3W (wdK (bl b)) (bl b).length k (by rw[HL.out];exact H6) hR.out;rw[wdK_at _ _ _ hx]at h1 h2;clear hx;have k2:=fun w=>K1.out x w
    by_cases hq:x=32/\0<k
    . obtain⟨H8,H5⟩:=hq
      subst H8;have e:=h1 (by rw[decide_eq_true H5];rfl);have H7:(k:Int) > 0:=by omega
      have ed:decide (0<k)=true:=decide_eq_true H5;have E:=z7 e;clear e;clear h1 h2 k2;go_wp2;go_roundw
      case rel=>exact⟨k+1,by first|omega|go_num,by rw[ed,decide_eq_true (Nat.succ_pos k)],by omega,E,trivial⟩
      case measure=>simp[intOf];omega
    . cases hc:cpB x with
      | true=>
       rw[hc]at k2;have e:=h1 (by rw[hc,Bool.or_true]);have g1:¬(x.toNat:Int)=32:=y0c x 32 (by decide) (by intro h;subst h;cases hc);have g3:((x.toNat:Int)==32)=false:=by simpa using g1
       have E:=z7 e;have K2:=z7 k2;clear e k2;clear h1 h2 hc hq
       go_wp2_with (go_at_call 79;refine(K2.out _).mono ?_;rintro e w1 ⟨rfl,rfl⟩)
       go_roundw
       case rel=>exact⟨k+1,by first|omega|go_num,by rw[decide_eq_true (Nat.succ_pos k)],by omega,E,trivial⟩
       case measure=>simp[intOf];omega
      | false=>
       rw[hc]at k2;have e:y0F (bl b)=false:=by
        rw[HA.out,h2 (by
         rw[hc,Bool.or_false,Bool.and_eq_false_iff];by_cases h:x=32
         . exact .inr (decide_eq_false fun h'=>hq ⟨h,h'⟩)
         . exact .inl (by rw[Y2];exact h))]
        rfl
       have E:=z7 e;have K2:=z7 k2;clear e k2;clear h1 h2 hc;by_cases h:x=32
       . subst h
         have H7:k=0:=by have:=hq;simp at this;exact this
         subst H7;clear hq
         go_wp2_with (go_at_call 79;refine(K2.out _).mono ?_;rintro e w1 ⟨rfl,rfl⟩)
         go_ret
         exact⟨y03 E.out.symm,z8⟩
       . have g1:¬(x.toNat:Int)=32:=y0c x 32 (by decide) h
         have g3:((x.toNat:Int)==32)=false:=by simpa using g1
         clear hq h
         go_wp2_with (go_at_call 79;refine(K2.out _).mono ?_;rintro e w1 ⟨rfl,rfl⟩)
         go_ret
         exact⟨y03 E.out.symm,z8⟩
  . have e:y0F (bl b)=decide (0<k):=by
     rw[HA.out,HL.out,show b.size=k by omega,hR.out,Bool.true_and,Bool.eq_iff_iff,decide_eq_true_iff,Bool.not_eq_true',List.isEmpty_eq_false_iff,<-List.length_pos_iff,HL.out];omega
    have E:=z7 e;clear e;go_wp2;go_ret
    exact⟨y03 E.out.symm,z8⟩
def qR(l:List UInt8):Int:=if valR l=true then(if l.count 34=0 then 0 else 1)else -1
theorem yD7(l:List UInt8)(k:Nat)(x:UInt8)(hx:l[k]?=some x):(l.take (k+1)).count 34=(l.take k).count 34+(if x=34 then 1 else 0):=by
 rw[List.take_add_one,hx,List.count_append]
 congr 1
 by_cases h:x=34
 . subst h;rfl
 . rw[if_neg h]
   simp[List.count_cons,h]
theorem yJN(l:List UInt8)(h0:l.count 34≠0)(h2:l.count 34≠2):qR l = -1:=by
 unfold qR valR;have a:(l.count 34==0)=false:=by rw[Y2];exact h0
 have b:(l.count 34==2)=false:=by rw[Y2];exact h2
 rw[a,b];rfl
theorem yJM(l:List UInt8)(h0:l.count 34=0):qR l=if l = []then -1 else 0:=by
 unfold qR valR;rw[h0];cases l<;>simp
theorem qR_two(l:List UInt8)(h0:l.count 34=2):qR l=if l.head?=some 34/\l.getLast?=some 34 then 1 else -1:=by
 unfold qR valR;rw[h0];by_cases h:l.head?=some 34
 . by_cases h2:l.getLast?=some 34
   . simp[h,h2]
   . have:(l.getLast?==some (34:UInt8))=false:=by simpa using h2
     simp[h,h2,this]
 . have:(l.head?==some (34:UInt8))=false:=by simpa using h
   simp[h,this]
theorem yCO(b:ByteArray)(w:World)(hs:b.size<=1000000):Calls prog 78 #[.string b] w fun e w'=>e=.returned (.int .i64 (qR (bl b)))/\Below w.heap.size w w':=by
 have HL:Hid ((bl b).length=b.size):=zJ b;obtain⟨V,hV⟩:∃V,V=qR (bl b):=⟨_,rfl⟩;rw[<-hV];have HV:=z7 hV;clear hV
 go_enter func78,ntmps78
 go_wp2
 go_loopw [3,4] (fun s i wr=>∃k n:Nat,i=.int .i64 (k:Int)/\s=.int .i64 (n:Int)/\k<=b.size/\n<=k/\Hid (((bl b).take k).count 34=n)/\wr=w) (fun _ i _=>b.size-(intOf i).toNat)
 case atStart=>exact⟨0,0,rfl,rfl,zD,zD,z7 rfl,rfl⟩
 case round=>
  obtain⟨k,n,rfl,rfl,hk,hn,hR,rfl⟩:=hrel;by_cases H6:k<b.size
  . obtain⟨x,hx⟩:=zM (bl b) k (by rw[HL.out];exact H6)
    have X:∀h,b[k]'h=x:=zS b k x hx;have H5:=x.toNat_lt;have h1:=yD7 (bl b) k x hx;rw[hR.out]at h1;clear hx;by_cases hq:x=34
    . subst hq
      rw[if_pos rfl]at h1;have E:=z7 h1;clear h1;go_wp2;go_roundw
      case rel=>exact⟨k+1,n+1,by first|omega|go_num,by first|omega|go_num,by omega,by omega,E,trivial⟩
      case measure=>simp[intOf];omega
    . rw[if_neg hq]at h1
      have g1:¬(x.toNat:Int)=34:=y0c x 34 (by decide) hq;have g3:((x.toNat:Int)==34)=false:=by simpa using g1
      have E:=z7 h1;clear h1;clear hq;go_wp2;go_roundw
      case rel=>exact⟨k+1,n,by first|omega|go_num,by first|omega|go_num,by omega,by omega,E,trivial⟩
      case measure=>simp[intOf];omega
  . have hc:(bl b).count 34=n:=by
     have:=hR.out
     rwa [List.take_of_length_le (by rw[HL.out];omega)]at this
    by_cases h0:n=0
    . subst h0
      have hv:=HV.out;rw[yJM _ hc]at hv;by_cases he:b.size=0
      . have hb:bl b = []:=List.eq_nil_of_length_eq_zero (by rw[HL.out];exact he)
        rw[if_pos hb]at hv;have H8:(b.toList==([]:List UInt8))=true:=by rw[ByteArray.toList_eq];exact beq_iff_eq.2 hb
        have H7:b.toList.isEmpty=true:=by rw[ByteArray.toList_eq];exact List.isEmpty_iff.2 hb
        have E:=z7 hv;clear hv;clear hb hc hR;go_wp2;go_ret
        exact⟨by rw[E.out];rfl,z8⟩
      . have hb:bl b ≠ []:=fun h=>he (by rw[<-HL.out,h];rfl)
        rw[if_neg hb]at hv;have H8:(b.toList==([]:List UInt8))=false:=by rw[ByteArray.toList_eq];exact beq_eq_false_iff_ne.2 hb
        have H7:b.toList.isEmpty=false:=by rw[ByteArray.toList_eq];exact List.isEmpty_eq_false_iff.2 hb
        have E:=z7 hv;clear hv;clear hb hc hR;go_wp2;go_ret
        exact⟨by rw[E.out];rfl,z8⟩
    . by_cases h2:n=2
      . subst h2
        have hv:=HV.out;rw[qR_two _ hc]at hv;obtain⟨x,hx⟩:=zM (bl b) 0 (by rw[HL.out];omega);obtain⟨y,hy⟩:=zM (bl b) (b.size-1) (by rw[HL.out];omega);have X:∀h,b[0]'h=x:=zS b 0 x hx;have Y:∀h,b[b.size-1]'h=y:=zS b (b.size-1) y hy;have H5:=x.toNat_lt;have H9:=y.toNat_lt;rw[List.head?_eq_getElem?,hx,List.getLast?_eq_getElem?,HL.out,hy]at hv;have Ha:(0:Int)<b.size:=by omega
        have hm:((b.size:Int)-1).toNat=b.size-1:=by omega
        have Hc:((b.size:Int)-1)<b.size:=by omega
        have Hb:(0:Int)<=((b.size:Int)-1):=by omega
        clear hx hy hc hR h0;by_cases q1:x=34
        . subst q1
          by_cases q2:y=34
          . subst q2
            rw[if_pos ⟨rfl,rfl⟩]at hv;have E:=z7 hv;clear hv;go_wp2;go_ret
            exact⟨by rw[E.out];rfl,z8⟩
          . rw[if_neg (fun h=>q2 (zF h.2))]at hv
            have g1:¬(y.toNat:Int)=34:=y0c y 34 (by decide) q2;have g3:((y.toNat:Int)==34)=false:=by simpa using g1
            have E:=z7 hv;clear hv;clear q2;go_wp2;go_ret
            exact⟨by rw[E.out];rfl,z8⟩
        . rw[if_neg (fun h=>q1 (zF h.1))]at hv
          have g1:¬(x.toNat:Int)=34:=y0c x 34 (by decide) q1;have g3:((x.toNat:Int)==34)=false:=by simpa using g1
          have E:=z7 hv;clear hv;clear q1;go_wp2;go_ret
          exact⟨by rw[E.out];rfl,z8⟩
      . have hv:=HV.out
        rw[yJN _ (by rw[hc];exact h0) (by rw[hc];exact h2)]at hv;have g0:((n:Int)==0)=false:=by rw[Y2];omega
        have g2:((n:Int)==2)=false:=by rw[Y2];omega
        have E:=z7 hv;clear hv;clear hc hR h0 h2;go_wp2;go_ret
        exact⟨by rw[E.out];rfl,z8⟩
end
open Go Go.Rf Go.RowKit Go.Proofs.Tryz
theorem infoPc:(Tryz.prog.info? 99).map (fun i=>(i.zero,i.size,i.bytes))=some (some Y3,3,40):=by kernel_rfl
theorem yH9(v:Value)(n:Nat)(cs:List Value)(B:Nat)(t:ByteArray)(w:World)(H6:w.ownsRow B 99 3 v n cs)(hn:n<1000000)(hB:B<=w.heap.size):
 Calls prog 27 #[v,.string t] w fun e w'=>(∃v',e=.returned v'/\w'.ownsRow B 99 3 v' (n+1) (cs ++ [.bool true,.string ⟨#[109,97,114,107]⟩,.string t]))/\Below B w w':=by
 obtain⟨a1,c1,rfl⟩:=zN H6;have H8:n<70368744177664:=by omega
 have H7:(n+1)*40<=140737488355328:=by omega
 go_enter func27,ntmps27
 go_wp2_with (first
  | (at_builtin;refine zR rfl _ _ 29 99 rfl underlying29 Y3 3 40 infoPc rfl (by decide) w B (.slice a1 n c1) n cs rfl H6 #[.bool true,.string ⟨#[109,97,114,107]⟩,.string t] rfl (by simp[Value.oneCell']) rfl H8 H7 hB ?_;intro v' w6 H5 H9 Ha)
  | fail)
 go_ret
 exact⟨⟨_,rfl,H5⟩,H9⟩
theorem yCM(v:Value)(n:Nat)(cs:List Value)(B:Nat)(m t:ByteArray)(w:World)(H6:w.ownsRow B 99 3 v n cs)(hn:n<1000000)(hB:B<=w.heap.size):
 Calls prog 29 #[v,.string m,.string t] w fun e w'=>(∃v',e=.returned v'/\w'.ownsRow B 99 3 v' (n+1) (cs ++ [.bool false,.string m,.string t]))/\Below B w w':=by
 obtain⟨a1,c1,rfl⟩:=zN H6;have H8:n<70368744177664:=by omega
 have H7:(n+1)*40<=140737488355328:=by omega
 go_enter func29,ntmps29
 go_wp2_with (first
  | (at_builtin;refine zR rfl _ _ 29 99 rfl underlying29 Y3 3 40 infoPc rfl (by decide) w B (.slice a1 n c1) n cs rfl H6 #[.bool false,.string m,.string t] rfl (by simp[Value.oneCell']) rfl H8 H7 hB ?_;intro v' w6 H5 H9 Ha)
  | fail)
 go_ret
 exact⟨⟨_,rfl,H5⟩,H9⟩
def mkL(t:ByteArray):List Pc:=if 0<t.size then [mkP t]else []
theorem zb(v:Value)(A:List Pc)(B:Nat)(t:ByteArray)(w:World)(H5:w.ownsRow B 99 3 v A.length (pcC A))(hn:A.length<1000000)(hB:B<=w.heap.size):
 Calls prog 27 #[v,.string t] w fun e w'=>(∃v',e=.returned v'/\w'.ownsRow B 99 3 v' (A ++ [mkP t]).length (pcC (A ++ [mkP t])))/\Below B w w':=by
 have:=yH9 v A.length (pcC A) B t w H5 hn hB;rw[zo,zH];exact this
theorem y09(v:Value)(A:List Pc)(B:Nat)(n t:ByteArray)(w:World)(H5:w.ownsRow B 99 3 v A.length (pcC A))(hn:A.length<1000000)(hB:B<=w.heap.size):
 Calls prog 29 #[v,.string n,.string t] w fun e w'=>(∃v',e=.returned v'/\w'.ownsRow B 99 3 v' (A ++ [txP n t]).length (pcC (A ++ [txP n t])))/\Below B w w':=by
 have:=yCM v A.length (pcC A) B n t w H5 hn hB;rw[zo,zH];exact this
theorem yEI(v:Value)(A:List Pc)(B:Nat)(t:ByteArray)(w:World)(H5:w.ownsRow B 99 3 v A.length (pcC A))(hn:A.length<1000000)(hB:B<=w.heap.size):
 Calls prog 25 #[v,.string t] w fun e w'=>(∃v',e=.returned v'/\w'.ownsRow B 99 3 v' (A++mkL t).length (pcC (A++mkL t)))/\Below B w w':=by
 have K1:=z7 (zb v A B t w H5 hn hB);have hz:t.toList.length=t.size:=by rw[ByteArray.toList_eq];rfl
 by_cases h:t.toList = []
 . have h1:t.toList.isEmpty=true:=List.isEmpty_iff.2 h
   have e:mkL t = []:=by unfold mkL;rw[if_neg];rw[h]at hz;simp at hz;omega
   rw[e,List.append_nil];have HO:=z7 H5;clear h H5 e hz
   go_enter func25,ntmps25
   go_wp2_with fail
   go_ret
   exact⟨⟨_,rfl,HO.out⟩,z8⟩
 . have h1:t.toList.isEmpty=false:=List.isEmpty_eq_false_iff.2 h
   have e:mkL t = [mkP t]:=by unfold mkL;rw[if_pos];rcases Nat.eq_zero_or_pos t.size with h0|h0;exact absurd (List.eq_nil_of_length_eq_zero (by omega)) h;exact h0
   rw[e];clear h e hz H5
   go_enter func25,ntmps25
   go_wp2_with (go_at_call 27;(with_reducible refine(K1.out).mono ?_);rintro e w1 ⟨⟨v,rfl,H5⟩,H6⟩)
   go_ret
   exact⟨⟨_,rfl,H5⟩,H6⟩
def sNm:List SliF:=[(.sym 0,some (.sym 1),some (.sym 2),.sym 4),(.sym 0,none,some (.sym 6),.sym 7),(.sym 0,some (.sym 6),some (.sym 8),.sym 9),(.sym 0,some (.sym 8),none,.sym 10)]
def cNm:List SymF:=[(78,[.a (.sym 4)],one1 (.sym 5))]
def tNm0:Told:={ b:=[(.lss,.sym 5,lI 0,lB true)],s:=[(.sym 0,some (.sym 1),some (.sym 2),.sym 4)],c:=cNm }
def tNm(v:Bool):Told:={ b:=[(.lss,.sym 5,lI 0,lB false),(.add,.sym 1,.sym 5,.sym 6),(.sub,.sym 2,.sym 5,.sym 8),(.eql,.sym 10,lS [],lB v)],s:=sNm,c:=cNm }
abbrev tSn(n x:At):List At:=[lB false,n,x]
noncomputable abbrev yJG(T:Told):Option (Nat×List At×Bool):=yAv T 46 [.a (.sym 0),.a (.sym 1),.a (.sym 2),.a (.sym 3)]
theorem rNm0:yJG tNm0=some (0,[],false):=by kernel_rfl
theorem rNmT:yJG (tNm true)=some (2,mA (.sym 7)++(tSn (.sym 3) (.sym 9) ++ []),true):=by kernel_rfl
theorem rNmF:yJG (tNm false)=some (3,mA (.sym 7)++(tSn (.sym 3) (.sym 9)++(mA (.sym 10) ++ [])),true):=by kernel_rfl
theorem yDj{I:Sym}{ρ:Rho}{n x:At}{m t:ByteArray}{r:List At}{us:List Value}(hn:n.den ρ=some (.string m))(h:x.den ρ=some (.string t))(hr:dens ρ r=some us):dens ρ (tSn n x++r)=some (pcV (txP m t)++us):=ze.2 ⟨_,_,rfl,ze.2 ⟨_,_,hn,ze.2 ⟨_,_,h,hr,rfl⟩,rfl⟩,rfl⟩
theorem b_of{a b:ByteArray}(h:bl a=bl b):a=b:=by
 rw[<-y1Z a,<-y1Z b];show(⟨(bl a).toArray⟩:ByteArray)=⟨(bl b).toArray⟩;rw[h]
theorem valT_q(V:ByteArray)(h:valR (bl V)=true):∃q:Nat,qR (bl V)=(q:Int)/\(valT V).2=q/\(valT V).1=V.extract q (V.size-q)/\2*q<=V.size:=by
 have ho:y0z (bl V)=true:=by rw[y6p];exact h
 obtain⟨h1,h2⟩:=y89 V ho;refine⟨(valT V).2,?_,rfl,b_of h2,by omega⟩;unfold qR;rw[h,if_pos rfl];unfold valT;by_cases h0:(bl V).count 34=0
 . have hc:(bl V).contains 34=false:=by rw[y0U];simp[h0]
   rw[if_pos h0,if_neg (by rw[hc];decide)];rfl
 . have hc:(bl V).contains 34=true:=by rw[y0U,beq_eq_false_iff_ne.2 h0];rfl
   rw[if_neg h0,if_pos hc,if_pos ho];rfl
theorem y6J(s nm:ByteArray)(f g:Nat)(w:World)(hG:GW w)(hs:s.size<=1000000)(H6:f<=g)(hg:g<=s.size):Calls prog 46 #[.string s,.int .i64 (f:Int),.int .i64 (g:Int),.string nm] w fun e w'=>(∃x,e=.returned (.tuple #[x,.bool (valR (bl (s.extract f g)))])/\(valR (bl (s.extract f g))=true->y1q w' x (valP s nm f g).length (pcC (valP s nm f g))))/\Below w.heap.size w w':=by
 obtain⟨V,hV⟩:∃V,V=s.extract f g:=⟨_,rfl⟩;have Hd:V.size=g-f:=by rw[hV,zG];omega
 have kv:=fun w=>yCO V w (by omega)
 have H7:valP s nm f g=mkP (s.extract 0 (f+(valT V).2))::txP nm (valT V).1::(if g-(valT V).2<s.size then [mkP (s.extract (g-(valT V).2) s.size)]else []):=by unfold valP;rw[<-hV]
 rw[<-hV,H7];cases hr:valR (bl V)with
 | false=>
  have hq:qR (bl V) = -1:=by unfold qR;rw[hr];rfl
  rw[hq]at kv
  letI:=sgL [.string s,.int .i64 f,.int .i64 g,.string nm,.string V,.int .i64 (-1)] ⟨zU _,zV _ _,zV _ _,zU _,zU _,zV _ _,trivial⟩
  have k:=y6z (n:=0) (r:=[]) (b:=false) (us:=[]) (f:=46) (args:=[.a (.sym 0),.a (.sym 1),.a (.sym 2),.a (.sym 3)]) (vals:=[.string s,.int .i64 f,.int .i64 g,.string nm]) hG (T:=tNm0) ⟨⟨y3q (a:=-1) (c:=0) (k:=.i64) (fun _=>rfl) (fun _=>rfl) (by decide),trivial⟩,trivial,
   ⟨⟨s,f,g,fun _=>rfl,⟨.i64,fun _=>rfl⟩,⟨.i64,fun _=>rfl⟩,H6,hg,fun _=>by rw[<-hV];rfl⟩,trivial⟩,trivial,⟨⟨[.string V],_,fun _=>rfl,fun _=>rfl,fun w' _=>kv w'⟩,trivial⟩,trivial,trivial⟩ rfl rNm0 (fun _=>rfl)
  exact k.mono fun e w' ⟨⟨x,h1,h2⟩,hb⟩=>⟨⟨x,h1,fun h=>by cases h⟩,hb⟩
 | true=>
  obtain⟨q,hq,H8,H9,Hc⟩:=valT_q V hr;rw[H8,H9];have Ha:f+q<=g-q:=by omega
  have Hb:q<=g:=by omega
  have ht:V.extract q (V.size-q)=s.extract (f+q) (g-q):=by rw[hV]at *;apply b_of;rw[yIB _ _ _ _ _ (by omega)];congr 2;omega
  rw[ht];rw[hq]at kv;obtain⟨v,hv⟩:∃v,((s.extract (g-q) s.size).data.toList==([]:List UInt8))=v:=⟨_,rfl⟩;have H5:v=decide (¬(g-q<s.size)):=by
   have hz:(s.extract (g-q) s.size).data.toList.length=s.size-(g-q):=by show(s.extract (g-q) s.size).size=_;rw[zG];omega
   rw[<-hv,Bool.eq_iff_iff,beq_iff_eq,decide_eq_true_iff,<-List.length_eq_zero_iff,hz];omega
  letI:=sgL [.string s,.int .i64 f,.int .i64 g,.string nm,.string V,.int .i64 (q:Int),.int .i64 ((f+q:Nat):Int),.string (s.extract 0 (f+q)),.int .i64 ((g-q:Nat):Int),.string (s.extract (f+q) (g-q)),.string (s.extract (g-q) s.size)]
   ⟨zU _,zV _ _,zV _ _,zU _,zU _,zV _ _,zV _ _,zU _,zV _ _,zU _,zU _,trivial⟩
  have hT:y1p w (tNm v):=⟨⟨y3q (a:=(q:Int)) (c:=0) (k:=.i64) (fun _=>rfl) (fun _=>rfl) (by simp),y3P (a:=(f:Int)) (c:=(q:Int)) (k:=.i64) (fun _=>rfl) (fun _=>rfl) (fun _=>rfl) (wi64 _ (by omega) (by omega)),
   y4k (a:=(g:Int)) (c:=(q:Int)) (k:=.i64) (fun _=>rfl) (fun _=>rfl) (fun _=>by rw[show(g:Int)-(q:Int)=((g-q:Nat):Int) by omega];rfl) (wi64 _ (by omega) (by omega)),y5i (s:=s.extract (g-q) s.size) (t:=⟨⟨[]⟩⟩) (fun _=>rfl) (fun _=>rfl) hv,trivial⟩,trivial,
   ⟨⟨s,f,g,fun _=>rfl,⟨.i64,fun _=>rfl⟩,⟨.i64,fun _=>rfl⟩,H6,hg,fun _=>by rw[<-hV];rfl⟩,⟨s,0,f+q,fun _=>rfl,rfl,⟨.i64,fun _=>rfl⟩,by omega,by omega,fun _=>rfl⟩,⟨s,f+q,g-q,fun _=>rfl,⟨.i64,fun _=>rfl⟩,⟨.i64,fun _=>rfl⟩,Ha,by omega,fun _=>rfl⟩,⟨s,g-q,s.size,fun _=>rfl,⟨.i64,fun _=>rfl⟩,rfl,by omega,zA,fun _=>rfl⟩,trivial⟩,
   trivial,⟨⟨[.string V],_,fun _=>rfl,fun _=>rfl,fun w' _=>kv w'⟩,trivial⟩,trivial,trivial⟩
  cases v with
  | true=>
   have hn:¬(g-q<s.size):=by simpa using H5
   rw[if_neg hn];have k:=y6z (n:=2) (r:=mA (.sym 7)++(tSn (.sym 3) (.sym 9) ++ [])) (b:=true) (us:=pcV (mkP (s.extract 0 (f+q)))++(pcV (txP nm (s.extract (f+q) (g-q))) ++ [])) (f:=46) (args:=[.a (.sym 0),.a (.sym 1),.a (.sym 2),.a (.sym 3)]) (vals:=[.string s,.int .i64 f,.int .i64 g,.string nm]) hG hT rfl rNmT (fun ρ=>y5O rfl (yDj rfl rfl rfl));exact k.mono fun e w' ⟨⟨x,h1,h2⟩,hb⟩=>⟨⟨x,h1,fun _=>h2⟩,hb⟩
  | false=>
   have hn:g-q<s.size:=by simpa using H5
   rw[if_pos hn];have k:=y6z (n:=3) (r:=mA (.sym 7)++(tSn (.sym 3) (.sym 9)++(mA (.sym 10) ++ []))) (b:=true) (us:=pcV (mkP (s.extract 0 (f+q)))++(pcV (txP nm (s.extract (f+q) (g-q)))++(pcV (mkP (s.extract (g-q) s.size)) ++ []))) (f:=46) (args:=[.a (.sym 0),.a (.sym 1),.a (.sym 2),.a (.sym 3)]) (vals:=[.string s,.int .i64 f,.int .i64 g,.string nm]) hG hT rfl rNmF (fun ρ=>y5O rfl (yDj rfl rfl (y5O rfl rfl)));exact k.mono fun e w' ⟨⟨x,h1,h2⟩,hb⟩=>⟨⟨x,h1,fun _=>h2⟩,hb⟩
def nmQ:List (List UInt8):=[traL,indL,preL,posL,catL,isrL,flaL]
def eqQ:List (List UInt8)->Nat->Nat->List BinF
 | [],_,_=>[]
 | l::r,j,m=>(.eql,.sym 0,lS l,lB (Nat.beq j m))::eqQ r (j+1) m
def tQ(m:Nat)(b:List BinF)(s:List SliF)(c:List SymF):Told:={ b:=b++eqQ nmQ 0 m,s:=s,l:=[(1,.sym 2)],c:=c }
def inxL:List UInt8:=[48,48,32]++momL
def bQ(g:Bool):List BinF:=[(.geq,.sym 2,lI 4,lB g)]
def sQ:List SliF:=[(.sym 1,none,some (lI 3),.sym 3),(.sym 1,some (lI 3),none,.sym 4)]
def cQ(p r:Bool):List SymF:=[(50,[.a (.sym 3),.a (lS [48,48,32])],one1 (lB p)),(47,[.a (.sym 4)],one1 (lB r))]
def lkQ(f:List UInt8)(r:Bool):List SymF:=[(50,[.a (.sym 1),.a (lS f)],one1 (lB r))]
def wkQ(r:Bool):List SymF:=[(80,[.a (.sym 1)],one1 (lB r))]
noncomputable abbrev runQ(T:Told):Option V2:=symEv T 48 [.a (.sym 0),.a (.sym 1)]
theorem q0(p r:Bool):runQ (tQ 0 (bQ true) sQ (cQ p r))=some (one1 (lB (p&&r))):=by cases p<;>cases r<;>kernel_rfl
theorem q9:runQ (tQ 0 (bQ false) [] [])=some (one1 (lB false)):=by kernel_rfl
theorem q1(r:Bool):runQ (tQ 1 [] [] (lkQ inxL r))=some (one1 (lB r)):=by cases r<;>kernel_rfl
theorem q2(r:Bool):runQ (tQ 2 [] [] (lkQ momL r))=some (one1 (lB r)):=by cases r<;>kernel_rfl
theorem q3(r:Bool):runQ (tQ 3 [] [] (lkQ momL r))=some (one1 (lB r)):=by cases r<;>kernel_rfl
theorem q4(r:Bool):runQ (tQ 4 [] [] (wkQ r))=some (one1 (lB r)):=by cases r<;>kernel_rfl
theorem q5(r:Bool):runQ (tQ 5 [] [] (wkQ r))=some (one1 (lB r)):=by cases r<;>kernel_rfl
theorem q6(r:Bool):runQ (tQ 6 [] [] (wkQ r))=some (one1 (lB r)):=by cases r<;>kernel_rfl
theorem q7:runQ (tQ 7 [] [] [])=some (one1 (lB false)):=by kernel_rfl
def y8X(w rest:List UInt8):Bool:=if w=traL then y4t rest else if w=indL then yFW rest else if w=preL\/w=posL then zW rest momL else if w=catL\/w=isrL\/w=flaL then y0F rest else false
noncomputable abbrev qI(W S:ByteArray):Sym:=sgL [.string W,.string S,.int .i64 S.size,.string (S.extract 0 3),.string (S.extract 3 S.size)] ⟨zU _,zU _,zV _ _,zU _,zU _,trivial⟩
theorem yG3(W S:ByteArray)(m:Nat):letI:=qI W S;∀(l:List (List UInt8)) (j:Nat),(∀i x,l[i]?=some x->(bl W==x)=Nat.beq (j+i) m)->y1P (eqQ l j m)
 | [],_,_=>trivial
 | x::l,j,h=>
  letI:=qI W S
  ⟨y5i (s:=W) (t:=⟨⟨x⟩⟩) (fun _=>rfl) (fun _=>rfl) (h 0 x rfl),yG3 W S m l (j+1) fun i y hy=>by rw[h (i+1) y (by simpa using hy)];congr 1;omega⟩
theorem nmq_at{l:List UInt8}{m:Nat}(x:List UInt8)(hx:nmQ[m]?=some x)(hl:l=x):∀i y,nmQ[i]?=some y->(l==y)=Nat.beq (0+i) m:=by
 subst hl;intro i y hy;have hm:m<7:=(List.getElem?_eq_some_iff.1 hx).1;have hi:i<7:=(List.getElem?_eq_some_iff.1 hy).1;have key:∀i j:Fin 7,(nmQ[j.val]?==nmQ[i.val]?)=Nat.beq (0+i.val) j.val:=by decide
 have:=key ⟨i,hi⟩ ⟨m,hm⟩;simp only[hx,hy]at this;rw[<-this];rfl
theorem nmq_no{l:List UInt8}(h:∀x∈nmQ,l≠x):∀i y,nmQ[i]?=some y->(l==y)=Nat.beq (0+i) 7:=by
 intro i y hy;have hi:i<7:=(List.getElem?_eq_some_iff.1 hy).1;have h1:(l==y)=false:=by rw[Y2];exact h y (List.mem_of_getElem? hy)
 have h2:Nat.beq (0+i) 7=false:=by
  cases hb:Nat.beq (0+i) 7 with
  | false=>rfl
  | true=>have:=Nat.eq_of_beq_eq_true hb;omega
 rw[h1,h2]
theorem yCR(W S:ByteArray)(w:World)(hG:GW w)(hs:S.size<=1000000):Calls prog 48 #[.string W,.string S] w fun e w'=>e=.returned (.bool (y8X (bl W) (bl S)))/\Below w.heap.size w w':=by
 have hL:letI:=qI W S;AllP LenOk [((1:Nat),At.sym 2)]:=letI:=qI W S;⟨⟨S,rfl,fun _=>rfl⟩,trivial⟩;have go:∀(m:Nat) (x:List UInt8) (b:List BinF) (s:List SliF) (c:List SymF) (r:Bool),nmQ[m]?=some x->bl W=x->(letI:=qI W S;y1P b)->(letI:=qI W S;AllP y5u s)->(letI:=qI W S;AllP (COk w) c)->runQ (tQ m b s c)=some (one1 (lB r)) ->
  Calls prog 48 #[.string W,.string S] w fun e w'=>e=.returned (.bool r)/\Below w.heap.size w w':=fun m x b s c r hx hl hb H5 hc hr=>
  letI:=qI W S
  y0W (vals:=[.string W,.string S]) hG (T:=tQ m b s c) ⟨y4l hb (yG3 W S m nmQ 0 (nmq_at x hx hl)),trivial,H5,hL,hc,trivial,trivial⟩ rfl hr (fun _=>rfl)
 have lk:∀(f:List UInt8),f.length<=1000->(letI:=qI W S;AllP (COk w) (lkQ f (zW (bl S) f))):=fun f hf=>
  letI:=qI W S
  ⟨⟨[.string S,.string ⟨⟨f⟩⟩],_,fun _=>rfl,fun _=>rfl,fun w' _=>y1w S ⟨⟨f⟩⟩ w' hs (by show f.length<=_;omega)⟩,trivial⟩
 have wk:(letI:=qI W S;AllP (COk w) (wkQ (y0F (bl S)))):=
  letI:=qI W S
  ⟨⟨[.string S],_,fun _=>rfl,fun _=>rfl,fun w' _=>yCN S w' hs⟩,trivial⟩
 unfold y8X;by_cases h0:bl W=traL
 . rw[if_pos h0]
   by_cases hg:4<=S.size
   . have e1:bl (S.extract 0 3)=(bl S).take 3:=by show(S.extract 0 3).data.toList=_;rw[y3j S 0 3 (by omega) (by omega)];rfl
     have e2:bl (S.extract 3 S.size)=(bl S).drop 3:=by rw[y3k S 3 (by omega)]
     have e:y4t (bl S)=(zW (bl (S.extract 0 3)) [48,48,32]&&cpsL (bl (S.extract 3 S.size))):=by unfold y4t;rw[e1,e2,zJ,decide_eq_true hg,Bool.true_and]
     rw[e]
     letI:=qI W S
     exact go 0 traL (bQ true) sQ (cQ (zW (bl (S.extract 0 3)) [48,48,32]) (cpsL (bl (S.extract 3 S.size)))) _ rfl h0 ⟨y2C (a:=S.size) (c:=4) (k:=.i64) (fun _=>rfl) (fun _=>rfl) (by simp;omega),trivial⟩
      ⟨⟨S,0,3,fun _=>rfl,rfl,⟨.i64,fun _=>rfl⟩,by omega,by omega,fun _=>rfl⟩,⟨S,3,S.size,fun _=>rfl,⟨.i64,fun _=>rfl⟩,rfl,by omega,zA,fun _=>rfl⟩,trivial⟩
      ⟨⟨[.string (S.extract 0 3),.string ⟨⟨[48,48,32]⟩⟩],_,fun _=>rfl,fun _=>rfl,fun w' _=>y1w (S.extract 0 3) ⟨⟨[48,48,32]⟩⟩ w' (by rw[zG];omega) (by decide)⟩,⟨[.string (S.extract 3 S.size)],_,fun _=>rfl,fun _=>rfl,fun w' _=>y8T (S.extract 3 S.size) w' (by rw[zG];omega)⟩,trivial⟩ (q0 _ _)
   . have e:y4t (bl S)=false:=by unfold y4t;rw[zJ,decide_eq_false hg];rfl
     rw[e]
     letI:=qI W S
     exact go 0 traL (bQ false) [] [] _ rfl h0 ⟨y2C (a:=S.size) (c:=4) (k:=.i64) (fun _=>rfl) (fun _=>rfl) (by simp;omega),trivial⟩ trivial trivial q9
 . rw[if_neg h0]
   by_cases h1:bl W=indL
   . rw[if_pos h1]
     exact go 1 indL [] [] (lkQ inxL (zW (bl S) inxL)) _ rfl h1 trivial trivial (lk inxL (by decide)) (q1 _)
   . rw[if_neg h1]
     by_cases h2:bl W=preL
     . rw[if_pos (Or.inl h2)];exact go 2 preL [] [] (lkQ momL (zW (bl S) momL)) _ rfl h2 trivial trivial (lk momL (by decide)) (q2 _)
     . by_cases h3:bl W=posL
       . rw[if_pos (Or.inr h3)];exact go 3 posL [] [] (lkQ momL (zW (bl S) momL)) _ rfl h3 trivial trivial (lk momL (by decide)) (q3 _)
       . rw[if_neg (fun h=>h.elim h2 h3)]
         by_cases h4:bl W=catL
         . rw[if_pos (Or.inl h4)];exact go 4 catL [] [] (wkQ (y0F (bl S))) _ rfl h4 trivial trivial wk (q4 _)
         . by_cases h5:bl W=isrL
           . rw[if_pos (Or.inr (Or.inl h5))];exact go 5 isrL [] [] (wkQ (y0F (bl S))) _ rfl h5 trivial trivial wk (q5 _)
           . by_cases h6:bl W=flaL
             . rw[if_pos (Or.inr (Or.inr h6))];exact go 6 flaL [] [] (wkQ (y0F (bl S))) _ rfl h6 trivial trivial wk (q6 _)
             . rw[if_neg (by rintro(h|h|h)<;>contradiction)]
               letI:=qI W S
               refine y0W (vals:=[.string W,.string S]) hG (T:=tQ 7 [] [] []) ⟨yG3 W S 7 nmQ 0 (nmq_no ?_),trivial,trivial,hL,trivial,trivial,trivial⟩ rfl q7 (fun _=>rfl);intro x hx;simp only[nmQ,List.mem_cons,List.not_mem_nil,or_false]at hx;rcases hx with rfl|rfl|rfl|rfl|rfl|rfl|rfl<;>assumption
