/- Pz42 -/
import Derived.Test.YtgjchmcpondogaaGreatDoorPz41
set_option linter.all false
set_option maxRecDepth 100000
set_option maxHeartbeats 40000000
namespace Go.Proofs.YtgjchmcpondogaaGreatDoor
open Go Go.Rf Go.RowKit
theorem y7R(w:World)(T:Array Value):((w.alloc (.cells trZ 71)).alloc (.cells faZ 37)).heap[w.heap.size]?=some (.cells trZ 71 (0,0))∧((((w.alloc (.cells trZ 71)).alloc (.cells faZ 37)).setRow w.heap.size T)).heap[w.heap.size+1]?=some (.cells faZ 37 (0,0)) ∧
 ((((w.alloc (.cells trZ 71)).alloc (.cells faZ 37)).setRow w.heap.size T).setRow (w.heap.size+1) faZ).heap[w.heap.size]?=some (.cells T 71 (0,0))∧((((w.alloc (.cells trZ 71)).alloc (.cells faZ 37)).setRow w.heap.size T).setRow (w.heap.size+1) faZ).heap[w.heap.size+1]?=some (.cells faZ 37 (0,0)) ∧
 Below w.heap.size w ((((w.alloc (.cells trZ 71)).alloc (.cells faZ 37)).setRow w.heap.size T).setRow (w.heap.size+1) faZ):=by
 have hs1:(w.alloc (.cells trZ 71)).heap.size=w.heap.size+1:=World.size_alloc _ _;have h1:((w.alloc (.cells trZ 71)).alloc (.cells faZ 37)).heap[w.heap.size]?=some (.cells trZ 71 (0,0)):=(heap_alloc_old _ _ (by rw[hs1];omega)).trans (heap_alloc_new _ _);have h2:((w.alloc (.cells trZ 71)).alloc (.cells faZ 37)).heap[w.heap.size+1]?=some (.cells faZ 37 (0,0)):=by rw[←hs1];exact heap_alloc_new _ _
 have h3:=(setRow_other ((w.alloc (.cells trZ 71)).alloc (.cells faZ 37)) w.heap.size (w.heap.size+1) T (by omega)).trans h2;refine⟨h1,h3,(setRow_other _ _ _ _ (by omega)).trans (setRow_heap _ _ _ _ _ _ h1),setRow_heap _ _ _ _ _ _ h3,below_setRow (below_setRow (bal (bal (Below.refl _ _) _) _) _ (Nat.le_refl _) _) _ (Nat.le_succ _) _⟩
theorem yIc(t:ByteArray)(h:(scanL (bl t)).2.isNone=false):ptR t true=.tuple #[.string ⟨#[]⟩,.agg (fK 2)]:=by unfold ptR;rw[if_pos h]
theorem yGe(t:ByteArray)(h:(scanL (bl t)).2.isNone=true):ptR t true=.tuple #[.string (prB t),.agg (fK 0)]:=by unfold ptR prB;rw[if_neg (by rw[h];decide),if_neg (by decide)]
theorem yGd(t:ByteArray)(h:(scanL (bl t)).2.isNone=true):ptR t false=.tuple #[.string ⟨#[]⟩,.agg (fK 5)]:=by unfold ptR;rw[if_neg (by rw[h];decide),if_pos rfl]
theorem walk(t:ByteArray)(z:Int)(w0:t.size≤maxLen)(w1:(Lit.int .u8 z).wf=true)(w:World)(hG:GW w):Calls Tryz.prog 4 #[.string t,.int .u8 z] w fun e w'=>e=.returned (.bool true)∧Below w.heap.size w w':=by
 have hz0:0≤z∧z<256:=by
  have:=w1;have h1:IntKind.u8.min=0:=rfl;have h2:IntKind.u8.max=255:=rfl;simp[Lit.wf]at this;omega
 clear w0 w1;obtain⟨u,rfl⟩:∃u:Nat,z=(u:Int):=⟨z.toNat,by omega⟩;obtain⟨k,hk⟩:∃k:Nat,(u:Int)%4+4=(k:Int):=⟨u%4+4,by omega⟩;have hk1:4≤k:=by omega
 have hk2:k<8:=by omega
 have KA:=Lib.hid (fun(w':World) (h:Below w.heap.size w w')=>yFw w' (hG.bel h));have HK:=Lib.hid hk;by_cases hs:500<t.size
 · have g:(500:Int)<(t.size:Int):=by omega
   clear hk hG
   go_enter Tryz.func4,Tryz.ntmps4
   go_upto_region 2 with fail
   rw[HK.out]
   go_wp2_with (go_at_call 14;refine(KA.out _ (Below.refl _ _)).mono ?_;rintro e w2 ⟨rfl,hb2⟩)
   go_ret
   exact⟨rfl,hb2⟩
 · have g:¬(500:Int)<(t.size:Int):=by omega
   have kp:=y75 k hk1 hk2 t w hG (by omega);obtain⟨R,hR⟩:∃R,R=txM k t:=⟨_,rfl⟩;rw[←hR]at kp;cases R with
   | inr a=>
    have kp2:Calls Tryz.prog 15 #[.int .i64 (k:Int),.string t] w fun e w'=>(∃n:Nat,e=.returned (.tuple #[.slice none 0 0,.int .i64 n]))∧Below w.heap.size w w':=kp.mono fun e w' q=>by
     rcases q.2 with⟨n,h1,h2⟩|⟨l,v,h1,h2,h3⟩
     · exact⟨⟨n,h2⟩,q.1⟩
     · cases h1
    have KP:=Lib.hid kp2;clear hk hG kp kp2 hR
    go_enter Tryz.func4,Tryz.ntmps4
    go_upto_region 2 with fail
    rw[HK.out]
    go_wp2_with (first
     | (go_at_call 15;refine(KP.out).mono ?_;rintro e w2 ⟨⟨n,rfl⟩,hb2⟩;have y0:(0:Int)≤(n:Int):=by omega)
     | (go_at_call 14;refine(KA.out _ hb2).mono ?_;rintro e w3 ⟨rfl,hb3⟩))
    go_ret
    exact⟨rfl,hb2.trans (hb3.mono hb2.size)⟩
   | inl l=>
    have hx:txM k t=.inl l:=hR.symm;have hwh:=yG9 k t l hx;have hln:=tx_len k t l hx;have kp2:Calls Tryz.prog 15 #[.int .i64 (k:Int),.string t] w fun e w'=>(∃v,e=.returned (.tuple #[v,.int .i64 (-1)])∧w'.ownsRow w.heap.size 73 3 v l.length (pcC l))∧Below w.heap.size w w':=kp.mono fun e w' q=>by
     rcases q.2 with⟨n,h1,h2⟩|⟨l',v,h1,h2,h3⟩
     · cases h1
     · cases h1;exact⟨⟨v,h2,h3⟩,q.1⟩
    have KP:=Lib.hid kp2;have HG:=Lib.hid hG;have HX:=Lib.hid hx;have HWH:=Lib.hid hwh;have HLN:Hid (l.length≤1500):=Lib.hid (by omega);have hts:t.size≤500:=by omega
    clear hk hG kp kp2 hR hx hwh hln
    go_enter Tryz.func4,Tryz.ntmps4
    go_upto_region 2 with fail
    rw[HK.out]
    go_upto_region 8 with(first
     | (go_at_call 15;refine(KP.out).mono ?_;rintro e w1 ⟨⟨rv,rfl,hown⟩,hb1⟩;obtain⟨ra,rc,rfl⟩:=zL hown)
     | (refine Go.wpList_store_row rfl 71 _ _ rfl w1.heap.size (treeA (k:Int) (.slice none 0 0) 0) rfl rfl 71 _ (heap_alloc_new _ _) (infoTr _ _ _) rfl (y2c _ _ _ _ _) ?_))
    have X0:=yG2 w1 (k:Int) trZ;obtain⟨W,hW⟩:∃W,W=(w1.alloc (.cells trZ 71)).setRow w1.heap.size (treeA (k:Int) (.slice none 0 0) 0):=⟨_,rfl⟩;rw[←hW]at X0 ⊢;have HROW:=Lib.hid (zm hown);have HX0:=Lib.hid X0;have HB1:=Lib.hid hb1;clear hown hb1 X0 hW
    go_wp2_with fail
    go_loopw [38] (fun iv wr=>∃(i:Nat) (A:List Pc) (v:Value),iv=.int .i64 (i:Int)∧i≤l.length∧Hid (A=l.take i)∧Hid (XS w1 (k:Int) v A wr)) (fun iv _=>l.length-(intOf iv).toNat)
    case atStart=>exact⟨0,[],_,rfl,Nat.zero_le _,Lib.hid rfl,HX0⟩
    case round=>
     obtain⟨i,A,v,rfl,hi,HA,HXS⟩:=hrel;obtain⟨va,vc,rfl⟩:=zL HXS.out.ow;by_cases hlt:i<l.length
     · obtain⟨p,hp⟩:=zM l i hlt
       have hrw:=HROW.out.keep HXS.out.bb;obtain⟨g',o,c',e,-⟩:=y0D hrw _ _ (y34 l i p hp 0 _ rfl);simp only[Value.slice.injEq]at e;obtain⟨rfl,_,rfl⟩:=e;obtain⟨q0,q1,q2⟩:=y4u hrw i p hp;obtain⟨W2,hW2⟩:∃W2,W2=wr.alloc (.cells #[.bool p.m,.string p.n,.string p.t] 73):=⟨_,rfl⟩;have hb2:Below wr.heap.size wr W2:=by rw[hW2];exact bal (Below.refl _ _) _
       have lf:∀(j:Nat) (u:Value),(#[Value.bool p.m,.string p.n,.string p.t]:Array Value)[j]?=some u→Live (wr.alloc (.cells #[.bool p.m,.string p.n,.string p.t] 73)) wr.heap.size j u:=fun j u h=>Live.fresh wr _ 73 j u h
       rw[←hW2]at lf;have f0:=(lf 0 _ rfl).1;have f1:=(lf 1 _ rfl).1;have f2:=(lf 2 _ rfl).1;have X2:=HXS.out.bel hb2;have x23:=X2.fld.1;have HX2:=Lib.hid X2;have hAl:A.length=i:=by rw[HA.out,List.length_take];omega
       have HTK:Hid (A ++ [p]=l.take (i+1)):=Lib.hid (by rw[HA.out,List.take_add_one,hp];rfl);have y1:A.length<70368744177664:=by have:=HLN.out;omega
       have y2:(A.length+1)*40≤140737488355328:=by have:=HLN.out;omega
       have hz2:w1.heap.size+1≤W2.heap.size:=X2.lt;have HW2:=Lib.hid hW2;have hlv:=HLN.out;clear lf X2 hb2 hrw hp hAl hW2
       go_upto_region 11 with fail
       rw[←HW2.out]
       go_wp2_with (at_builtin;refine zP rfl _ _ 69 74 rfl Tryz.underlying69 (.agg #[.bool false,.string ⟨#[]⟩,.string ⟨#[]⟩]) 3 40 infoLP rfl (by decide) W2 (w1.heap.size+1) (.slice va A.length vc) A.length (pcC A) rfl HX2.out.ow #[.bool p.m,.string p.n,.string p.t] rfl (by simp[Value.oneCell']) rfl y1 y2 hz2 ?_;intro v6 w6 hown6 hb6 hk6;obtain⟨a6,c6,rfl⟩:=zL hown6;(have X6:=HX2.out.push (v':=.slice a6 (A.length+1) c6) (l':=A ++ [p]) (by rw[zl,List.length_append];exact hown6) hb6);obtain⟨s0,s0'⟩:=zN (HX2.out.low hb6) 23 _ rfl)
       go_roundw
       case rel=>exact⟨i+1,A ++ [p],_,by first|omega|go_num,by omega,HTK,Lib.hid X6⟩
       case measure=>simp[intOf];omega
     · have hA:l=A:=by rw[HA.out,List.take_of_length_le (by omega)]
       subst hA;have hbr:=HB1.out.trans (HXS.out.bb.mono HB1.out.size);have kpr:∀w',Below wr.heap.size wr w'→Calls Tryz.prog 16 #[.agg (treeA (k:Int) (.slice va l.length vc) 0)] w' fun e w''=>e=.returned (ptR t true)∧Below w'.heap.size w' w'':=fun w' h=>by
        have X:=HXS.out.bel h;have:=y5y k hk1 hk2 (.slice va l.length vc) 0 l l w' (HG.out.bel (hbr.trans (h.mono hbr.size))) (zm X.ow) t HWH.out.symm (by omega) (by have:=HLN.out;omega) (by have:=HLN.out;omega) HX.out (.inl rfl)
        rwa [decide_eq_true rfl]at this
       have HBR:=Lib.hid hbr;cases hv:(scanL (bl t)).2.isNone with
       | false=>
        rw[yIc t hv]at kpr;have KPR:=Lib.hid kpr;have KB2:Hid (∀w',Calls Tryz.prog 13 #[.agg #[.int .i64 2,.int .i64 0]] w' fun e w''=>e=.returned (.bool true)∧Below w'.heap.size w' w''):=Lib.hid (fun w'=>y4S 2 0 w');have kE:=y5V 2 0 2 0;have kG:=fun op x y w=>y1G op x y #[.int .i64 2,.int .i64 0] #[.int .i64 2,.int .i64 0] w
        clear kpr hv hbr
        go_upto_region 14 with(first
         | (refine wpList_load_row rfl 71 _ rfl w1.heap.size rfl 71 _ (0,0) _ HXS.out.bx Tryz.underlying71 rfl (infoTr _ _ _) ?_)
         | (go_at_call 16;refine(KPR.out _ (Below.refl _ _)).mono ?_;rintro e w3 ⟨rfl,hb3⟩)
         | (refine Go.wpList_store_row rfl 37 _ _ rfl w3.heap.size (fK 2) rfl rfl 37 faZ (heap_alloc_new _ _) (yEu _) rfl (yJ6 _) ?_))
        obtain⟨hf3,hbf⟩:=y7S w3 faZ 2;obtain⟨Y,hY⟩:∃Y,Y=(w3.alloc (.cells faZ 37)).setRow w3.heap.size (fK 2):=⟨_,rfl⟩;rw[←hY]at hf3 hbf ⊢;have KF:=Lib.hid (fun w' (h:Below Y.heap.size Y w')=>yFB (blkQ hf3 h));obtain⟨m0,m1⟩:=KF.out Y (Below.refl _ _);have HBY:=Lib.hid (HBR.out.trans ((bt hb3 hbf).mono HBR.out.size));clear hf3 hbf hY hb3
        go_wp2_with (first
         | (go_at_call 13;refine(KB2.out _).mono ?_;rintro e w4 ⟨rfl,hb4⟩;have hb4':=HBY.out.trans (hb4.mono HBY.out.size))
         | (go_at_call 14;refine(KA.out _ hb4').mono ?_;rintro e w5 ⟨rfl,hb5⟩;obtain⟨a0,a1⟩:=KF.out w5 (bt hb4 hb5)))
        go_ret
        exact⟨rfl,hb4'.trans (hb5.mono hb4'.size)⟩
       | true=>
        have hvn:(scanL (bl t)).2=none:=by cases hq:(scanL (bl t)).2 with
         | none=>rfl
         | some x=>rw[hq]at hv;cases hv
        rw[yGe t hv]at kpr;have KPR:=Lib.hid kpr;have KB0:Hid (∀w',Calls Tryz.prog 13 #[.agg #[.int .i64 0,.int .i64 0]] w' fun e w''=>e=.returned (.bool false)∧Below w'.heap.size w' w''):=Lib.hid (fun w'=>y4S 0 0 w');have kE:=y5V 5 0 5 0;have kG:=fun op x y w=>y1G op x y #[.int .i64 5,.int .i64 0] #[.int .i64 5,.int .i64 0] w
        have KPA:=Lib.hid (fun w' (h:Below w.heap.size w w')=>yCT k hk1 hk2 l w' (HG.out.bel h) t hvn (by omega) HX.out);have KRP:=Lib.hid (fun w' (h:Below w1.heap.size w1 w')=>yBw k hk1 hk2 (.slice ra l.length rc) l w' (HG.out.bel (HB1.out.trans (h.mono HB1.out.size))) (HROW.out.keep h) t HWH.out.symm (by omega) (by have:=HLN.out;omega));have KSM:=Lib.hid (fun w' u (h:Below w1.heap.size w1 w') (hr:Row w' u l.length (pcC l))=>yDw u (.slice ra l.length rc) l w' hr (HROW.out.keep h) (by have:=HLN.out;omega));have kp3:∀v' w',XS w1 (k:Int) v' (l ++ [mkP ⟨#[]⟩]) w'→Calls Tryz.prog 16 #[.agg (treeA (k:Int) v' 0)] w' fun e w''=>e=.returned (.tuple #[.string ⟨#[]⟩,.agg (fK 5)])∧Below w'.heap.size w' w'':=fun v' w' X=>by
         have hne:(l ++ [mkP ⟨#[]⟩]).length≠l.length:=by simp
         have:=y5y k hk1 hk2 v' 0 (l ++ [mkP ⟨#[]⟩]) l w' (HG.out.bel (HB1.out.trans (X.bb.mono HB1.out.size))) (zm X.ow) t (by rw[y2b,HWH.out];show _=bl t ++ [];rw[List.append_nil]) (by omega) (by have:=HLN.out;rw[List.length_append];simp;omega) (by have:=HLN.out;omega) HX.out (.inr hne)
         rwa [decide_eq_false hne,yGd t hv]at this
        have KP3:=Lib.hid kp3;have HY1:Hid (l.length<70368744177664∧(l.length+1)*40≤140737488355328):=Lib.hid (by have:=HLN.out;omega);clear kpr hv hbr hvn kp3
        go_upto_region 14 with(first
         | (refine wpList_load_row rfl 71 _ rfl w1.heap.size rfl 71 _ (0,0) _ HXS.out.bx Tryz.underlying71 rfl (infoTr _ _ _) ?_)
         | (go_at_call 16;refine(KPR.out _ (Below.refl _ _)).mono ?_;rintro e w3 ⟨rfl,hb3⟩)
         | (refine Go.wpList_store_row rfl 37 _ _ rfl w3.heap.size (fK 0) rfl rfl 37 faZ (heap_alloc_new _ _) (yEu _) rfl (yJ6 _) ?_))
        obtain⟨hf3,hbf⟩:=y7S w3 faZ 0;obtain⟨Y,hY⟩:∃Y,Y=(w3.alloc (.cells faZ 37)).setRow w3.heap.size (fK 0):=⟨_,rfl⟩;rw[←hY]at hf3 hbf ⊢;obtain⟨m0,m1⟩:=yFB hf3;have hwy:=bt hb3 hbf;have HXY:=Lib.hid (HXS.out.bel hwy);have HBY:=Lib.hid (HBR.out.trans (hwy.mono HBR.out.size));clear hf3 hbf hY hb3 hwy
        go_upto_region 17 with(first
         | (go_at_call 13;refine(KB0.out _).mono ?_;rintro e w4 ⟨rfl,hb4⟩;have hb4':=HBY.out.trans (hb4.mono HBY.out.size))
         | (go_at_call 17;refine(KPA.out _ hb4').mono ?_;rintro e w5 ⟨uv,rfl,hu,hb5⟩;obtain⟨ua,uc,rfl⟩:=zL hu)
         | (refine Go.wpList_store_row rfl 71 _ _ rfl w5.heap.size (treeA (k:Int) (.slice ua l.length uc) 7) rfl rfl 71 _ (y7R w5 #[]).1 (infoTr _ _ _) rfl (y2c _ _ _ _ _) ?_)
         | (refine Go.wpList_store_row rfl 37 _ _ rfl (w5.heap.size+1) faZ rfl rfl 37 faZ (y7R w5 _).2.1 infoFa rfl faOne ?_))
        obtain⟨_,_,hzT,hzF,hbZ⟩:=y7R w5 (treeA (k:Int) (.slice ua l.length uc) 7);obtain⟨Z,hZ⟩:∃Z,Z=((((w5.alloc (.cells trZ 71)).alloc (.cells faZ 37)).setRow w5.heap.size (treeA (k:Int) (.slice ua l.length uc) 7)).setRow (w5.heap.size+1) faZ):=⟨_,rfl⟩;rw[←hZ]at hzT hzF hbZ ⊢;have hyz:=(bt hb4 hb5).trans (hbZ.mono (Nat.le_trans hb4.size hb5.size));have HXZ:=Lib.hid (HXY.out.bel hyz);have HRU:=Lib.hid (zm (zK hu hbZ));have KF:=Lib.hid (fun w' (h:Below Z.heap.size Z w')=>(⟨(zN (blkQ hzT h) 23 _ rfl).1,(zN (blkQ hzF h) 0 _ rfl).1,(zN (blkQ hzF h) 1 _ rfl).1⟩:w'.cell? ⟨w5.heap.size,23,none⟩=some (.slice ua l.length uc)∧w'.cell? ⟨w5.heap.size+1,0,none⟩=some (.int .i64 0)∧w'.cell? ⟨w5.heap.size+1,1,none⟩=some (.int .i64 0)));clear hzT hzF hbZ hZ hyz hu hb5 hb4 hb4' m0 m1
        go_upto_region 19 with(first
         | (go_at_call 18;refine(KRP.out _ HXZ.out.bb).mono ?_;rintro e w6 ⟨rfl,hb6⟩;obtain⟨b0,b1,b2⟩:=KF.out w6 hb6)
         | (go_at_call 13;refine(KB0.out _).mono ?_;rintro e w7 ⟨rfl,hb7⟩;have hb7':=bt hb6 hb7;obtain⟨d0,d1,d2⟩:=KF.out w7 hb7')
         | (go_at_call 19;refine(KSM.out _ _ (HXZ.out.bel hb7').bb (HRU.out.keep hb7')).mono ?_;rintro e w8 ⟨rfl,hb8⟩))
        have HX8:=Lib.hid (HXZ.out.bel (bt hb7' hb8));have x8:=HX8.out.fld.1;have hz8:w1.heap.size+1≤w8.heap.size:=HX8.out.lt;clear hb6 hb7 hb8 hb7' b0 b1 b2 d0 d1 d2
        go_upto_region 21 with(first
         | (at_builtin;refine zP rfl _ _ 69 74 rfl Tryz.underlying69 (.agg #[.bool false,.string ⟨#[]⟩,.string ⟨#[]⟩]) 3 40 infoLP rfl (by decide) w8 (w1.heap.size+1) (.slice va l.length vc) l.length (pcC l) rfl HX8.out.ow #[.bool true,.string mkN,.string ⟨#[]⟩] rfl (by simp[Value.oneCell']) rfl HY1.out.1 HY1.out.2 hz8 ?_;intro v9 w9 hown9 hb9 hk9;obtain⟨a9,c9,rfl⟩:=zL hown9;(have X9:=HX8.out.push (v':=.slice a9 (l.length+1) c9) (l':=l ++ [mkP ⟨#[]⟩]) (by rw[zl,List.length_append];exact hown9) hb9);obtain⟨s0,s0'⟩:=zN (HX8.out.low hb9) 23 _ rfl)
         | (refine wpList_load_row rfl 71 _ rfl w1.heap.size rfl 71 _ (0,0) _ X9.bx Tryz.underlying71 rfl (infoTr _ _ _) ?_)
         | (go_at_call 16;refine(KP3.out _ _ X9).mono ?_;rintro e w10 ⟨rfl,hb10⟩)
         | (refine Go.wpList_store_row rfl 37 _ _ rfl w10.heap.size (fK 5) rfl rfl 37 faZ (heap_alloc_new _ _) (yEu _) rfl (yJ6 _) ?_))
        obtain⟨hf3,hbf⟩:=y7S w10 faZ 5;obtain⟨V,hV⟩:∃V,V=(w10.alloc (.cells faZ 37)).setRow w10.heap.size (fK 5):=⟨_,rfl⟩;rw[←hV]at hf3 hbf ⊢;have KF5:=Lib.hid (fun w' (h:Below V.heap.size V w')=>yFB (blkQ hf3 h));have X10:=X9.bel (bt hb10 hbf);have HBV:=Lib.hid (HB1.out.trans (X10.bb.mono HB1.out.size));clear hf3 hbf hV hb10 X9 X10 s0 s0'
        go_wp2_with (go_at_call 14;refine(KA.out _ HBV.out).mono ?_;rintro e w11 ⟨rfl,hb11⟩;obtain⟨a0,a1⟩:=KF5.out w11 hb11)
        go_ret
        exact⟨rfl,HBV.out.trans (hb11.mono HBV.out.size)⟩
end Go.Proofs.YtgjchmcpondogaaGreatDoor
