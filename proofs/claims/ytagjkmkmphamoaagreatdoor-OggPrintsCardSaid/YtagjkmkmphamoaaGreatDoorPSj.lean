/- Sj -/
import Derived.Test.YtagjkmkmphamoaaGreatDoorPSi
set_option linter.all false
set_option maxHeartbeats 4000000
namespace Go.Proofs.YtagjkmkmphamoaaGreatDoor
open Go.RowKit
theorem Tab.set{w:World}{B:Nat}{v:Value}{S:List RP}(h:Tab w B v S){g j:Nat}{cur:Array Value}{e:TypeId}(hg:g<B)(hb:w.heap[g]?=some (.cells cur e (0,0)))(he:e≠21)(u:Value):Tab (w.setCell ⟨g,j,none⟩ u) B v S:=by
 obtain⟨X,h1,h2,h3⟩:=h;refine⟨X,jb5 h1 fun q hq=>Below.heap_setCell _ _ _ _ ?_,h2,fun r hr=>(h3 r hr).blk fun q cur' hq=>Below.heap_setCell _ _ _ _ ?_⟩
 · have:=(jb7 h1 q hq).1
   simp only;omega
 · simp only
   intro e1;subst e1;rw[hb]at hq;simp at hq;exact he hq.2
theorem Tab.mono{w:World}{B B':Nat}{v:Value}{S:List RP}(h:Tab w B v S)(hB:B'≤B):Tab w B' v S:=by
 obtain⟨X,h1,h2,h3⟩:=h;exact⟨X,jc3 h1 hB,h2,h3⟩
theorem newTab2(v:Value)(PS:List PC)(S:List RP)(w:World)(hT:TW w)(hrow:Row w v PS.length (pcells PS))(hne:PS ≠ [])(hlen:PS.length≤1000)(hR:∀p∈PS,p.Right∧(p.tx.size≠0→p.tq=0∧p.ct=0))
 (hS:PS.map PC.row=S) (hdis:S.Pairwise fun p q=>p.fr+p.ct≤q.fr):
 Calls Tryz.prog 169 #[v] w fun e w'=>
  ∃a c,e=.returned (.tuple #[.agg #[.slice a S.length c],.agg #[.int .i64 0,.int .i64 0]])∧Tab w' w.heap.size (.slice a S.length c) S∧Below w.heap.size w w':=by
 have hlt:S.Pairwise fun a b=>a.fr<b.fr:=by
  refine List.Pairwise.imp_of_mem ?_ hdis;intro a b ha _ h;rw[←hS]at ha;obtain⟨p,hp,rfl⟩:=List.mem_map.1 ha;have:=(vt1 p (hR p hp).1).2.1;omega
 have hd2:PS.Pairwise fun p q=>∀c,¬(p.row.has c∧q.row.has c):=by
  rw[←hS,List.pairwise_map]at hdis;exact hdis.imp fun h c ⟨h1,h2⟩=>by unfold RP.has at h1 h2;omega
 refine(vz5 _ PS _ hT hrow hne hlen hR hd2).mono fun e w' ⟨v,X,he,h1,h2,h3,h4,h5⟩=>?_
 have hX:X.map RR.pl=S:=jw1 _ _ (by rw[←hS];exact h2) (by rw[List.pairwise_map];exact h3) hlt;have ht:Tab w' w.heap.size v S:=⟨X,h1,hX,h4⟩;obtain⟨a,c,rfl⟩:=ht.len;exact⟨a,c,he,ht,h5⟩
theorem qx4(cs:Array Value)(PS:List PC)(S:List RP)(n:Nat)(w:World)(hT:TW w)(hn:n=PS.length)(hcs:cs.toList=pcells PS)(hne:PS ≠ [])(hlen:PS.length≤1000)(hR:∀p∈PS,p.Right∧(p.tx.size≠0→p.tq=0∧p.ct=0))
 (hS:PS.map PC.row=S) (hdis:S.Pairwise fun p q=>p.fr+p.ct≤q.fr):
 Calls Tryz.prog 144 #[.slice (some ⟨w.heap.size,0,none⟩) n n] (w.alloc (.cells cs 200)) fun e w'=>
  ∃a c,e=.returned (.agg #[.slice a S.length c])∧Tab w' w.heap.size (.slice a S.length c) S∧Below w.heap.size w w':=by
 have hrow:=kk4 w cs 200 n;rw[hcs]at hrow;obtain⟨W,hW⟩:∃W,W=w.alloc (.cells cs 200):=⟨_,rfl⟩;rw[←hW]at hrow ⊢;have hbW:Below w.heap.size w W:=by rw[hW];exact bal (Below.refl _ _) _
 have hTW:TW W:=hT.bel hbW;subst hn;have k1:=fun X=>newTab2 _ PS S (W.alloc X) (hTW.alloc X) (hrow.keep ((Below.refl _ _).alloc (Nat.le_refl _) X)) hne hlen hR hS hdis
 have l0:=Live.fresh W #[.slice none 0 0] 175 0 _ rfl;obtain⟨q,hq⟩:∃q,q=S.length:=⟨_,rfl⟩;have hfin:∀(e:Ending) (w':World),(∃a c,e=.returned (.agg #[.slice a q c])∧Tab w' w.heap.size (.slice a q c) S∧Below w.heap.size w w')→(∃a c,e=.returned (.agg #[.slice a S.length c])∧Tab w' w.heap.size (.slice a S.length c) S∧Below w.heap.size w w'):=by rw[hq];exact fun _ _ h=>h
 rw[←hq]at k1;generalize PS.length=n at *;refine Calls.mono ?_ hfin;have K1:=Lib.hid k1;have HBW:=Lib.hid hbW;clear k1 hbW;clear hW hrow hR hS hdis hcs hfin hq hne
 go_enter Tryz.func144,Tryz.ntmps144
 go_wp2_with fail
 refine(K1.out _).mono ?_;rintro e w1 ⟨a,c,rfl,ht,hb1⟩;obtain⟨a1,a2⟩:=l0.keep hb1;have hlt:W.heap.size<w1.heap.size:=jd2 a1
 go_wp2_with fail
 refine bodyPost_ret (v:=.agg #[.slice a q c]) (by simp[results,Tryz.results144,go_sem,a1,a2,hlt]) rfl ?_;have hb2:Below W.heap.size W w1:=bt (bal (Below.refl _ _) _) hb1;have hw:=HBW.out;have hblk:w1.heap[W.heap.size]?=some (.cells #[.slice none 0 0] 175 (0,0)):=(hb1.block _ (by simp)).trans (heap_alloc_new _ _);have ht':=ht.set (j:=0) (by simp) hblk (by decide) (.slice a q c);refine⟨a,c,rfl,?_,bal (bal ((hw.trans (hb2.mono hw.size)).setCell hw.size _) _) _⟩;exact(ht'.bel (bal (bal (Below.refl _ _) _) _)).mono (by simp;have:=hw.size;omega)
theorem qh0(w:World):Calls Tryz.prog 170 #[] w fun e w'=>e=.returned (.agg #[.int .i64 0,.int .i32 0,.int .i64 128,.string ByteArray.empty])∧Below w.heap.size w w':=by
 have kS:=fun a b c w=>kj6 a b c w
 simp only[pieceV]at kS;have l0:=Live.fresh w #[.int .i64 0,.int .i32 0,.int .i64 0,.string ByteArray.empty] 200 0 _ rfl;have l1:=Live.fresh w #[.int .i64 0,.int .i32 0,.int .i64 0,.string ByteArray.empty] 200 1 _ rfl;have l2:=Live.fresh w #[.int .i64 0,.int .i32 0,.int .i64 0,.string ByteArray.empty] 200 2 _ rfl;have l3:=Live.fresh w #[.int .i64 0,.int .i32 0,.int .i64 0,.string ByteArray.empty] 200 3 _ rfl;have KS:=Lib.hid kS;clear kS
 go_enter Tryz.func170,Tryz.ntmps170
 go_wp2_with (go_at_call 145;refine(KS.out _ _ _ _).mono ?_;rintro e w1 ⟨rfl,hb1⟩;obtain⟨a0,b0⟩:=l0.keep hb1;obtain⟨a1,b1⟩:=l1.keep hb1;obtain⟨a2,b2⟩:=l2.keep hb1;obtain⟨a3,b3⟩:=l3.keep hb1)
 refine bodyPost_ret (v:=.agg #[.int .i64 0,.int .i32 0,.int .i64 128,.string ByteArray.empty]) (by simp[results,Tryz.results170,go_sem,a0,a1,a2,a3,b0,b1,b2,b3]) rfl ⟨rfl,?_⟩;exact((((bt (bal (Below.refl _ _) _) hb1).setCell (Nat.le_refl _) _).setCell (Nat.le_refl _) _).setCell (Nat.le_refl _) _).setCell (Nat.le_refl _) _
noncomputable def koP:List Int:=pts (bl koT)
theorem qs9:koP.length=128:=(jn0 _ _ qb8).symm
noncomputable def koS:List RP:=[⟨0,128,0,none⟩,⟨128,128,0,some koP⟩]
theorem kz3(a b c:Int):(PC.mk a b c ByteArray.empty).row=⟨a,c,b,none⟩:=rfl
theorem qq6(a:Int)(t:ByteArray)(l:List Int)(n:Int)(h:t.size≠0)(hl:pts (bl t)=l)(hn:(l.length:Int)=n):(PC.mk a 0 0 t).row=⟨a,n,0,some l⟩:=by
 unfold PC.row;rw[if_neg h,hl,hn]
theorem kk6(a:Int)(t:ByteArray)(n:Nat)(h:t.size≠0)(hs:t.size≤1000)(hn:scanL (bl t)=(n,none))(hi:insideB a n=true):(PC.mk a 0 0 t).Right:=by
 unfold PC.Right;rw[if_neg h];exact⟨by simp only;omega,n,hn,hi⟩
theorem qq3(t:ByteArray)(n:Nat)(h:scanL (bl t)=(n,none))(hn:n≠0):t.size≠0:=by
 intro e;have:bl t = []:=List.eq_nil_of_length_eq_zero (by rw[jb1];exact e);rw[this]at h;simp[scanL,scanF]at h;exact hn h.symm
def TabPost(S:List RP)(n:Nat)(w:World)(e:Ending)(w':World):Prop:=∃a c,e=.returned (.agg #[.slice a n c])∧Tab w' w.heap.size (.slice a n c) S∧Below w.heap.size w w'
set_option maxRecDepth 100000 in
theorem ko_table(w:World)(hT:TW w):Calls Tryz.prog 144 #[.slice (some ⟨w.heap.size,0,none⟩) 2 2] (w.alloc (.cells #[.int .i64 0,.int .i32 0,.int .i64 128,.string ByteArray.empty,.int .i64 128,.int .i32 0,.int .i64 0,.string koT] 200)) (TabPost koS 2 w):=by
 have hne:=qq3 koT 128 qb8 (by decide);refine qx4 _ [⟨0,0,128,ByteArray.empty⟩,⟨128,0,0,koT⟩] koS 2 w hT rfl rfl (by simp) (by simp) ?_ ?_ ?_
 · intro p hp
   simp only[List.mem_cons,List.not_mem_nil,or_false]at hp;rcases hp with rfl|rfl
   · exact⟨⟨by decide,by decide,by decide,by decide⟩,fun h=>absurd rfl h⟩
   · have h1:insideB 128 ((128:Nat):Int)=true:=by decide
     have h2:=kk6 128 koT 128 hne koT_size qb8 h1;exact⟨h2,fun _=>And.intro (show(0:Int)=0 from rfl) (show(0:Int)=0 from rfl)⟩
 · have e1:=qq6 128 koT koP 128 hne rfl (by rw[qs9];rfl)
   have e2:=kz3 0 0 128;simp only[List.map_cons,List.map_nil,e1,e2,koS]
 · simp[koS]
set_option maxRecDepth 100000 in
theorem kk2(w:World)(hT:TW w):Calls Tryz.prog 146 #[] w (TabPost koS 2 w):=by
 have kp:=fun w=>qh0 w
 have kL:=fun a w=>qb6 a koT w
 simp only[pieceV]at kL;have kk:=fun w hT=>ko_table w hT
 have l0:=Live.fresh w #[.slice none 0 0] 175 0 _ rfl;have hbl:=heap_alloc_new w (.cells #[.slice none 0 0] 175);have hTA:=hT.alloc (.cells #[.slice none 0 0] 175);have hbA:Below w.heap.size w (w.alloc (.cells #[.slice none 0 0] 175)):=bal (Below.refl _ _) _;have KP:=Lib.hid kp;have KL:=Lib.hid kL;have KK:=Lib.hid kk;have HBL:=Lib.hid hbl;have HTA:=Lib.hid hTA;have HBA:=Lib.hid hbA;clear kp kL kk hbl hTA hbA;clear hT
 go_enter Tryz.func146,Tryz.ntmps146
 go_wp2_with (first
  | (go_at_call 170;refine(KP.out _).mono ?_;rintro e w1 ⟨rfl,hb1⟩)
  | (go_at_call 172;refine(vr5 _ koT koB _ (by kernel_rfl) ⟨by rw[koB_ok.1];decide,koB_ok.2⟩ rfl).mono ?_;rintro e w2 ⟨rfl,hb2⟩)
  | (go_at_call 171;refine(KL.out _ _).mono ?_;rintro e w3 ⟨rfl,hb3⟩))
 have hb13:=bt (bt hb1 hb2) hb3;have hT3:=HTA.out.bel hb13;refine(KK.out w3 hT3).mono ?_;rintro e w4 ⟨a,c,rfl,ht,hb4⟩;have hb14:=bt hb13 hb4;obtain⟨a1,a2⟩:=l0.keep hb14;have hb:=bt HBA.out hb14;have hblk:=(hb14.block _ (by simp)).trans HBL.out;have hlt3:w.heap.size<w3.heap.size:=by have:=hb13.size;simp at this;omega
 have HB4:=Lib.hid hblk;clear hblk
 go_wp2_with fail
 refine bodyPost_ret (v:=.agg #[.slice a 2 c]) (by simp[results,Tryz.results146,go_sem,a1,a2]) rfl ?_;exact⟨a,c,rfl,(ht.set hlt3 HB4.out (by decide) _).mono (by omega),hb.setCell (Nat.le_refl _) _⟩
def insR(r:RP):List RP→List RP
 | []=>[r]
 | q::l=>if r.fr≤q.fr then r::q::l else q::insR r l
def sortR:List RP→List RP
 | []=>[]
 | r::l=>insR r (sortR l)
theorem xd0(r:RP)(l:List RP):(insR r l).Perm (r::l):=by
 induction l with
 | nil=>exact List.Perm.refl _
 | cons q l ih=>
  simp only[insR];split
  · exact List.Perm.refl _
  · exact(List.Perm.cons q ih).trans (List.Perm.swap r q l)
theorem vf1(l:List RP):(sortR l).Perm l:=by
 induction l with
 | nil=>exact List.Perm.refl _
 | cons r l ih=>exact(xd0 r _).trans (List.Perm.cons r ih)
def uoS:List RP:=[⟨164,1,1108,none⟩,⟨166,2,1110,none⟩,⟨173,1,1169,none⟩,⟨180,1,1028,none⟩,⟨182,2,1030,none⟩,⟨189,1,1168,none⟩]
def cutL(l:List Int)(a n:Nat):Option (List Int):=some ((l.drop a).take n)
def ukL(l:List Int):List RP:=[⟨0,128,0,none⟩,⟨128,36,0,cutL l 0 36⟩,⟨164,1,1108,none⟩,⟨165,1,0,cutL l 37 1⟩,⟨166,2,1110,none⟩,⟨168,5,0,cutL l 40 5⟩,⟨173,1,1169,none⟩,⟨174,6,0,cutL l 46 6⟩,
 ⟨180,1,1028,none⟩,⟨181,1,0,cutL l 53 1⟩,⟨182,2,1030,none⟩,⟨184,5,0,cutL l 56 5⟩,⟨189,1,1168,none⟩,⟨190,66,0,cutL l 62 66⟩]
theorem uk_over(l:List Int):sortR (ovAll uoS [⟨0,128,0,none⟩,⟨128,128,0,some l⟩] 0 uoS)=ukL l:=by kernel_rfl
noncomputable def ukS:List RP:=ukL koP
theorem jk4(a b t:Int)(h:0≤a∧1≤b∧a+b≤1048576∧0≤t∧t+b≤2097152):(⟨a,b,t,none⟩:RP).Good:=⟨h.1,h.2.1,h.2.2.1,h.2.2.2.1,h.2.2.2.2,fun l hl=>by cases hl⟩
theorem jx7(a b:Int)(l:List Int)(h:0≤a∧1≤b∧a+b≤1048576)(hl:(l.length:Int)=b):(⟨a,b,0,some l⟩:RP).Good:=⟨h.1,h.2.1,h.2.2,Int.le_refl _,by simp only;omega,fun l' hl'=>by cases hl';exact hl⟩
theorem cut_len(l:List Int)(a n:Nat)(hl:l.length=128)(h:a+n≤128):((l.drop a).take n).length=n:=by rw[List.length_take,List.length_drop,hl];omega
theorem qb9:∀r∈koS,r.Good:=by
 intro r hr;simp only[koS,List.mem_cons,List.not_mem_nil,or_false]at hr;rcases hr with rfl|rfl
 · exact jk4 _ _ _ (by decide)
 · exact jx7 _ _ _ (by decide) (by rw[qs9];rfl)
theorem uoS_good:∀r∈uoS,r.Good:=by
 intro r hr;simp only[uoS,List.mem_cons,List.not_mem_nil,or_false]at hr;rcases hr with rfl|rfl|rfl|rfl|rfl|rfl
 all_goals exact jk4 _ _ _ (by decide)
theorem ukS_good:∀r∈ukS,r.Good:=by
 intro r hr;simp only[ukS,ukL,cutL,List.mem_cons,List.not_mem_nil,or_false]at hr;rcases hr with rfl|rfl|rfl|rfl|rfl|rfl|rfl|rfl|rfl|rfl|rfl|rfl|rfl|rfl
 all_goals first|exact jk4 _ _ _ (by decide)|exact jx7 _ _ _ (by decide) (by rw[cut_len _ _ _ qs9 (by decide)];rfl)
theorem uo_table(w:World)(hT:TW w):Calls Tryz.prog 144 #[.slice (some ⟨w.heap.size,0,none⟩) 6 6] (w.alloc (.cells #[.int .i64 164,.int .i32 1108,.int .i64 1,.string ByteArray.empty,.int .i64 166,.int .i32 1110,.int .i64 2,.string ByteArray.empty,
 .int .i64 173,.int .i32 1169,.int .i64 1,.string ByteArray.empty,.int .i64 180,.int .i32 1028,.int .i64 1,.string ByteArray.empty,.int .i64 182,.int .i32 1030,.int .i64 2,.string ByteArray.empty,.int .i64 189,.int .i32 1168,.int .i64 1,.string ByteArray.empty] 200)) (TabPost uoS 6 w):=by
 refine qx4 _ [⟨164,1108,1,ByteArray.empty⟩,⟨166,1110,2,ByteArray.empty⟩,⟨173,1169,1,ByteArray.empty⟩,⟨180,1028,1,ByteArray.empty⟩,⟨182,1030,2,ByteArray.empty⟩,⟨189,1168,1,ByteArray.empty⟩] uoS 6 w hT rfl rfl (by simp) (by simp) ?_ rfl ?_
 · intro p hp
   simp only[List.mem_cons,List.not_mem_nil,or_false]at hp;rcases hp with rfl|rfl|rfl|rfl|rfl|rfl
   all_goals exact⟨⟨by decide,by decide,by decide,by decide⟩,fun h=>absurd rfl h⟩
 · simp[uoS]
theorem over_uk(va vb:Value)(B1 B2:Nat)(w:World)(hA:Tab w B1 va uoS)(hC:Tab w B2 vb koS):Calls Tryz.prog 173 #[.agg #[va],.agg #[vb]] w (TabPost ukS 14 w):=
 vw3 va vb uoS koS ukS _ B1 B2 w hA hC (by simp[uoS]) (by decide) (by simp[koS]) uoS_good qb9 rfl (by have h:=vf1 (ovAll uoS koS 0 uoS);rw[show sortR (ovAll uoS koS 0 uoS)=ukS from uk_over koP]at h;exact h.symm) (by simp[ukS,ukL])
set_option maxRecDepth 100000 in
theorem kx7(w:World)(hT:TW w):Calls Tryz.prog 147 #[] w (TabPost ukS 14 w):=by
 have kS:=fun a b c w=>kj6 a b c w
 simp only[pieceV]at kS;have kk:=fun w hT=>uo_table w hT
 have kr:=fun w hT=>kk2 w hT
 have ko:=fun va vb B1 B2 w h1 h2=>over_uk va vb B1 B2 w h1 h2
 have l0:=Live.fresh w #[.slice none 0 0] 175 0 _ rfl;have hbl:=heap_alloc_new w (.cells #[.slice none 0 0] 175);have hTA:=hT.alloc (.cells #[.slice none 0 0] 175);have hbA:Below w.heap.size w (w.alloc (.cells #[.slice none 0 0] 175)):=bal (Below.refl _ _) _;have KS:=Lib.hid kS;have KK:=Lib.hid kk;have KR:=Lib.hid kr;have KO:=Lib.hid ko;have HBL:=Lib.hid hbl;have HTA:=Lib.hid hTA;have HBA:=Lib.hid hbA;clear kS kk kr ko hbl hTA hbA;clear hT
 go_enter Tryz.func147,Tryz.ntmps147
 go_wp2_with fail
 have hcur:=(Below.refl (w.alloc (.cells #[.slice none 0 0] 175)).heap.size (w.alloc (.cells #[.slice none 0 0] 175)))
 go_wp2_with (go_at_call 145;refine(KS.out _ _ _ _).mono ?_;rintro e w1 ⟨rfl,hb1⟩;have hcur:=bt hcur hb1)
 refine(KK.out _ (HTA.out.bel hcur)).mono ?_;rintro e w2 ⟨a1,c1,rfl,ht1,hb2⟩;have hc2:=bt hcur hb2;clear hcur
 go_wp2_with fail
 have hbW:Below w2.heap.size w2 (w2.alloc (.cells #[.slice a1 6 c1] 175)):=bal (Below.refl _ _) _;have t1:(w2.alloc (.cells #[.slice a1 6 c1] 175)).cell? ⟨w2.heap.size,0,none⟩=some (.slice a1 6 c1):=by rw[World.cell?_alloc_new];rfl
 have hTW:TW (w2.alloc (.cells #[.slice a1 6 c1] 175)):=((HTA.out.bel hc2).alloc _);have ht2:=ht1.bel hbW;have hcW:=bt hc2 hbW;generalize w2.alloc (.cells #[.slice a1 6 c1] 175)=W at *;generalize w2.heap.size=p2 at *;clear hb2 hc2 ht1 hbW
 go_region_with (first
  | (go_at_call 146;refine(KR.out _ hTW.drew).mono ?_;rintro e w5 ⟨a5,c5,rfl,ht5,hb5⟩;have t5:=kc hb5 t1;have ht25:=ht2.bel (bt ((Below.refl _ _).drew) hb5))
  | (go_at_call 173;refine(KO.out _ _ _ _ _ ht25 ht5).mono ?_;rintro e w6 ⟨a6,c6,rfl,ht6,hb6⟩;have hcz:=bt (bt hcW (bt ((Below.refl _ _).drew) hb5)) hb6;obtain⟨b1,b2⟩:=l0.keep hcz))
 all_goals
  have hblk:=(hcz.block _ (by simp)).trans HBL.out;have hb:=bt HBA.out hcz;have hlt6:w.heap.size<w6.heap.size:=jd2 b1;have hlt5:w.heap.size<w5.heap.size:=by
   have h1:=hcW.size;have h2:=hb5.size;simp at h1 h2;omega
  have HB4:=Lib.hid hblk;clear hblk
  go_wp2_with fail
  refine bodyPost_ret (v:=.agg #[.slice a6 14 c6]) (by simp[results,Tryz.results147,go_sem,b1,b2]) rfl ?_;exact⟨a6,c6,rfl,(ht6.set hlt5 HB4.out (by decide) _).mono (by omega),hb.setCell (Nat.le_refl _) _⟩
noncomputable def b0P:List Int:=pts (bl b0T)
noncomputable def f0P:List Int:=pts (bl f0T)
theorem xj1:b0P.length=48:=(jn0 _ _ qd7).symm
theorem xg0:f0P.length=16:=(jn0 _ _ qc8).symm
noncomputable def alS:List RP:=[⟨0,128,0,none⟩,⟨128,48,1040,none⟩,⟨176,48,0,some b0P⟩,⟨224,16,1088,none⟩,⟨240,16,0,some f0P⟩]
theorem alS_good:∀r∈alS,r.Good:=by
 intro r hr;simp only[alS,List.mem_cons,List.not_mem_nil,or_false]at hr;rcases hr with rfl|rfl|rfl|rfl|rfl
 · exact jk4 _ _ _ (by decide)
 · exact jk4 _ _ _ (by decide)
 · exact jx7 _ _ _ (by decide) (by rw[xj1];rfl)
 · exact jk4 _ _ _ (by decide)
 · exact jx7 _ _ _ (by decide) (by rw[xg0];rfl)
set_option maxRecDepth 100000 in
theorem al_table(w:World)(hT:TW w):Calls Tryz.prog 144 #[.slice (some ⟨w.heap.size,0,none⟩) 5 5] (w.alloc (.cells #[.int .i64 0,.int .i32 0,.int .i64 128,.string ByteArray.empty,.int .i64 128,.int .i32 1040,.int .i64 48,.string ByteArray.empty,
 .int .i64 176,.int .i32 0,.int .i64 0,.string b0T,.int .i64 224,.int .i32 1088,.int .i64 16,.string ByteArray.empty,.int .i64 240,.int .i32 0,.int .i64 0,.string f0T] 200)) (TabPost alS 5 w):=by
 have hne1:=qq3 b0T 48 qd7 (by decide);have hne2:=qq3 f0T 16 qc8 (by decide);refine qx4 _ [⟨0,0,128,ByteArray.empty⟩,⟨128,1040,48,ByteArray.empty⟩,⟨176,0,0,b0T⟩,⟨224,1088,16,ByteArray.empty⟩,⟨240,0,0,f0T⟩] alS 5 w hT rfl rfl (by simp) (by simp) ?_ ?_ ?_
 · intro p hp
   simp only[List.mem_cons,List.not_mem_nil,or_false]at hp;rcases hp with rfl|rfl|rfl|rfl|rfl
   · exact⟨⟨by decide,by decide,by decide,by decide⟩,fun h=>absurd rfl h⟩
   · exact⟨⟨by decide,by decide,by decide,by decide⟩,fun h=>absurd rfl h⟩
   · have h1:insideB 176 ((48:Nat):Int)=true:=by decide
     exact⟨kk6 176 b0T 48 hne1 b0T_size qd7 h1,fun _=>And.intro (show(0:Int)=0 from rfl) (show(0:Int)=0 from rfl)⟩
   · exact⟨⟨by decide,by decide,by decide,by decide⟩,fun h=>absurd rfl h⟩
   · have h1:insideB 240 ((16:Nat):Int)=true:=by decide
     exact⟨kk6 240 f0T 16 hne2 f0T_size qc8 h1,fun _=>And.intro (show(0:Int)=0 from rfl) (show(0:Int)=0 from rfl)⟩
 · have e1:=qq6 176 b0T b0P 48 hne1 rfl (by rw[xj1];rfl)
   have e2:=qq6 240 f0T f0P 16 hne2 rfl (by rw[xg0];rfl);have e3:=kz3 0 0 128;have e4:=kz3 128 1040 48;have e5:=kz3 224 1088 16;simp only[List.map_cons,List.map_nil,e1,e2,e3,e4,e5,alS]
 · simp[alS]
set_option maxRecDepth 100000 in
theorem kq1(w:World)(hT:TW w):Calls Tryz.prog 148 #[] w (TabPost alS 5 w):=by
 have kp:=fun w=>qh0 w
 have kL:=fun a t w=>qb6 a t w
 have kS:=fun a b c w=>kj6 a b c w
 simp only[pieceV]at kL kS;have kk:=fun w hT=>al_table w hT
 have l0:=Live.fresh w #[.slice none 0 0] 175 0 _ rfl;have hbl:=heap_alloc_new w (.cells #[.slice none 0 0] 175);have hTA:=hT.alloc (.cells #[.slice none 0 0] 175);have hbA:Below w.heap.size w (w.alloc (.cells #[.slice none 0 0] 175)):=bal (Below.refl _ _) _;have KP:=Lib.hid kp;have KL:=Lib.hid kL;have KK:=Lib.hid kk;have KS:=Lib.hid kS;have HBL:=Lib.hid hbl;have HTA:=Lib.hid hTA;have HBA:=Lib.hid hbA;clear kp kL kk kS hbl hTA hbA;clear hT
 go_enter Tryz.func148,Tryz.ntmps148
 go_wp2_with fail
 have hcur:=(Below.refl (w.alloc (.cells #[.slice none 0 0] 175)).heap.size (w.alloc (.cells #[.slice none 0 0] 175)))
 go_wp2_with (first
  | (go_at_call 170;refine(KP.out _).mono ?_;rintro e w1 ⟨rfl,hb1⟩;have hcur:=bt hcur hb1)
  | (go_at_call 145;refine(KS.out _ _ _ _).mono ?_;rintro e w1 ⟨rfl,hb1⟩;have hcur:=bt hcur hb1)
  | (go_at_call 171;refine(KL.out _ _ _).mono ?_;rintro e w1 ⟨rfl,hb1⟩;have hcur:=bt hcur hb1))
 refine(vr5 _ b0T b0B _ (by kernel_rfl) ⟨by rw[b0B_ok.1];decide,b0B_ok.2⟩ rfl).mono ?_;rintro e w1 ⟨rfl,hb1⟩;have hcur:=bt hcur hb1
 go_wp2_with (first
  | (go_at_call 170;refine(KP.out _).mono ?_;rintro e w1 ⟨rfl,hb1⟩;have hcur:=bt hcur hb1)
  | (go_at_call 145;refine(KS.out _ _ _ _).mono ?_;rintro e w1 ⟨rfl,hb1⟩;have hcur:=bt hcur hb1)
  | (go_at_call 171;refine(KL.out _ _ _).mono ?_;rintro e w1 ⟨rfl,hb1⟩;have hcur:=bt hcur hb1))
 refine(vr5 _ f0T f0B _ (by kernel_rfl) ⟨by rw[f0B_ok.1];decide,f0B_ok.2⟩ rfl).mono ?_;rintro e w1 ⟨rfl,hb1⟩;have hcur:=bt hcur hb1
 go_wp2_with (first
  | (go_at_call 170;refine(KP.out _).mono ?_;rintro e w1 ⟨rfl,hb1⟩;have hcur:=bt hcur hb1)
  | (go_at_call 145;refine(KS.out _ _ _ _).mono ?_;rintro e w1 ⟨rfl,hb1⟩;have hcur:=bt hcur hb1)
  | (go_at_call 171;refine(KL.out _ _ _).mono ?_;rintro e w1 ⟨rfl,hb1⟩;have hcur:=bt hcur hb1))
 refine(KK.out w1 (HTA.out.bel hcur)).mono ?_;rintro e w4 ⟨a,c,rfl,ht,hb4⟩;have hb14:=bt hcur hb4;obtain⟨a1,a2⟩:=l0.keep hb14;have hb:=bt HBA.out hb14;have hblk:=(hb14.block _ (by simp)).trans HBL.out;have hlt3:w.heap.size<w1.heap.size:=by have:=hcur.size;simp at this;omega
 have HB4:=Lib.hid hblk;clear hblk
 go_wp2_with fail
 refine bodyPost_ret (v:=.agg #[.slice a 5 c]) (by simp[results,Tryz.results148,go_sem,a1,a2]) rfl ?_;exact⟨a,c,rfl,(ht.set hlt3 HB4.out (by decide) _).mono (by omega),hb.setCell (Nat.le_refl _) _⟩
def laS:List RP:=[⟨0,256,0,none⟩]
theorem vb4:∀r∈laS,r.Good:=by
 intro r hr;simp only[laS,List.mem_cons,List.not_mem_nil,or_false]at hr;subst hr;exact jk4 _ _ _ (by decide)
theorem la_table(w:World)(hT:TW w):Calls Tryz.prog 144 #[.slice (some ⟨w.heap.size,0,none⟩) 1 1] (w.alloc (.cells #[.int .i64 0,.int .i32 0,.int .i64 256,.string ByteArray.empty] 200)) (TabPost laS 1 w):=by
 refine qx4 _ [⟨0,0,256,ByteArray.empty⟩] laS 1 w hT rfl rfl (by simp) (by simp) ?_ rfl ?_
 · intro p hp
   simp only[List.mem_cons,List.not_mem_nil,or_false]at hp;subst hp;exact⟨⟨by decide,by decide,by decide,by decide⟩,fun h=>absurd rfl h⟩
 · simp[laS]
noncomputable def setS(c:Int):List RP:=if c=0 then laS else if c=1 then koS else if c=2 then ukS else alS
def setN(c:Int):Nat:=if c=0 then 1 else if c=1 then 2 else if c=2 then 14 else 5
theorem vr8(c:Int):∀r∈setS c,r.Good:=by
 unfold setS
 repeat' split
 · exact vb4
 · exact qb9
 · exact ukS_good
 · exact alS_good
def OfPost(c:Int)(w:World)(e:Ending)(w':World):Prop:=∃a cp,e=.returned (.tuple #[.agg #[.slice a (setN c) cp,.int .i64 c],.bool true])∧Tab w' w.heap.size (.slice a (setN c) cp) (setS c)∧Below w.heap.size w w'
set_option maxRecDepth 100000 in
theorem vx6(c:Int)(w:World)(hT:TW w)(h0:0≤c)(h1:c≤3):Calls Tryz.prog 123 #[.int .i64 c] w (OfPost c w):=by
 have kS:=fun a b c w=>kj6 a b c w
 simp only[pieceV]at kS;have k0:=fun w hT=>la_table w hT
 have k1:=fun w hT=>kk2 w hT
 have k2:=fun w hT=>kx7 w hT
 have k3:=fun w hT=>kq1 w hT
 have l0:=Live.fresh w #[.slice none 0 0,.int .i64 0] 177 0 _ rfl;have l1:=Live.fresh w #[.slice none 0 0,.int .i64 0] 177 1 _ rfl;have hbl:=heap_alloc_new w (.cells #[.slice none 0 0,.int .i64 0] 177);have hTA:=hT.alloc (.cells #[.slice none 0 0,.int .i64 0] 177);have hbA:Below w.heap.size w (w.alloc (.cells #[.slice none 0 0,.int .i64 0] 177)):=bal (Below.refl _ _) _;have hsz:(w.alloc (.cells #[.slice none 0 0,.int .i64 0] 177)).heap.size=w.heap.size+1:=World.size_alloc _ _;have KS:=Lib.hid kS;have K0:=Lib.hid k0;have K1:=Lib.hid k1;have K2:=Lib.hid k2;have K3:=Lib.hid k3;have HBL:=Lib.hid hbl;have HTA:=Lib.hid hTA;have HBA:=Lib.hid hbA;have HSZ:=Lib.hid hsz;clear kS k0 k1 k2 k3 hbl hTA hbA hsz;clear hT;rcases(show c=0∨c=1∨c=2∨c=3 from by omega)with rfl|rfl|rfl|rfl
 · go_enter Tryz.func123,Tryz.ntmps123
   go_wp2_with (go_at_call 145;refine(KS.out _ _ _ _).mono ?_;rintro e w1 ⟨rfl,hb1⟩)
   refine(K0.out w1 (HTA.out.bel hb1)).mono ?_;rintro e w4 ⟨a,cp,rfl,ht,hb4⟩;have hb14:=bt hb1 hb4;obtain⟨a1,a2⟩:=l0.keep hb14;obtain⟨a3,a4⟩:=l1.keep hb14;have hb:=bt HBA.out hb14;have hblk:=(hb14.block _ (by rw[HSZ.out];omega)).trans HBL.out;have hlt:w.heap.size<w1.heap.size:=by have:=hb1.size;rw[HSZ.out]at this;omega
   have HB4:=Lib.hid hblk;clear hblk
   go_wp2_with fail
   refine bodyPost_ret (v:=.tuple #[.agg #[.slice a 1 cp,.int .i64 0],.bool true]) (by simp[results,Tryz.results123,go_sem,a1,a2,a3,a4]) rfl ?_;exact⟨a,cp,rfl,((ht.set hlt HB4.out (by decide) _).set hlt (heap_setCell_same _ _ _ _ _ _ HB4.out) (by decide) _).mono (by omega),(hb.setCell (Nat.le_refl _) _).setCell (Nat.le_refl _) _⟩
 · go_enter Tryz.func123,Tryz.ntmps123
   go_wp2_with fail
   refine(K1.out _ HTA.out).mono ?_;rintro e w4 ⟨a,cp,rfl,ht,hb14⟩;obtain⟨a1,a2⟩:=l0.keep hb14;obtain⟨a3,a4⟩:=l1.keep hb14;have hb:=bt HBA.out hb14;have hblk:=(hb14.block _ (by rw[HSZ.out];omega)).trans HBL.out;have hlt:w.heap.size<(w.alloc (.cells #[.slice none 0 0,.int .i64 0] 177)).heap.size:=by rw[HSZ.out];omega
   have HB4:=Lib.hid hblk;clear hblk
   go_wp2_with fail
   refine bodyPost_ret (v:=.tuple #[.agg #[.slice a 2 cp,.int .i64 1],.bool true]) (by simp[results,Tryz.results123,go_sem,a1,a2,a3,a4]) rfl ?_;exact⟨a,cp,rfl,((ht.set hlt HB4.out (by decide) _).set hlt (heap_setCell_same _ _ _ _ _ _ HB4.out) (by decide) _).mono (Nat.le_of_lt hlt),(hb.setCell (Nat.le_refl _) _).setCell (Nat.le_refl _) _⟩
 · go_enter Tryz.func123,Tryz.ntmps123
   go_wp2_with fail
   refine(K2.out _ HTA.out).mono ?_;rintro e w4 ⟨a,cp,rfl,ht,hb14⟩;obtain⟨a1,a2⟩:=l0.keep hb14;obtain⟨a3,a4⟩:=l1.keep hb14;have hb:=bt HBA.out hb14;have hblk:=(hb14.block _ (by rw[HSZ.out];omega)).trans HBL.out;have hlt:w.heap.size<(w.alloc (.cells #[.slice none 0 0,.int .i64 0] 177)).heap.size:=by rw[HSZ.out];omega
   have HB4:=Lib.hid hblk;clear hblk
   go_wp2_with fail
   refine bodyPost_ret (v:=.tuple #[.agg #[.slice a 14 cp,.int .i64 2],.bool true]) (by simp[results,Tryz.results123,go_sem,a1,a2,a3,a4]) rfl ?_;exact⟨a,cp,rfl,((ht.set hlt HB4.out (by decide) _).set hlt (heap_setCell_same _ _ _ _ _ _ HB4.out) (by decide) _).mono (Nat.le_of_lt hlt),(hb.setCell (Nat.le_refl _) _).setCell (Nat.le_refl _) _⟩
 · go_enter Tryz.func123,Tryz.ntmps123
   go_wp2_with fail
   refine(K3.out _ HTA.out).mono ?_;rintro e w4 ⟨a,cp,rfl,ht,hb14⟩;obtain⟨a1,a2⟩:=l0.keep hb14;obtain⟨a3,a4⟩:=l1.keep hb14;have hb:=bt HBA.out hb14;have hblk:=(hb14.block _ (by rw[HSZ.out];omega)).trans HBL.out;have hlt:w.heap.size<(w.alloc (.cells #[.slice none 0 0,.int .i64 0] 177)).heap.size:=by rw[HSZ.out];omega
   have HB4:=Lib.hid hblk;clear hblk
   go_wp2_with fail
   refine bodyPost_ret (v:=.tuple #[.agg #[.slice a 5 cp,.int .i64 3],.bool true]) (by simp[results,Tryz.results123,go_sem,a1,a2,a3,a4]) rfl ?_;exact⟨a,cp,rfl,((ht.set hlt HB4.out (by decide) _).set hlt (heap_setCell_same _ _ _ _ _ _ HB4.out) (by decide) _).mono (Nat.le_of_lt hlt),(hb.setCell (Nat.le_refl _) _).setCell (Nat.le_refl _) _⟩
end Go.Proofs.YtagjkmkmphamoaaGreatDoor
