/- Si -/
import Derived.Test.YtagjkmkmphamoaaGreatDoorPRx
set_option linter.all false
set_option maxHeartbeats 2000000
namespace Go.Proofs.YtagjkmkmphamoaaGreatDoor
open Go.RowKit
theorem jw1:∀(l S:List RP),l.Perm S→(l.Pairwise fun a b=>a.fr≤b.fr)→(S.Pairwise fun a b=>a.fr<b.fr)→l=S:=by
 intro l
 induction l with
 | nil=>intro S h _ _;exact h.nil_eq
 | cons a l ih=>
  intro S h hl hS;cases S with
  | nil=>exact absurd h.length_eq (by simp)
  | cons b S=>
   have hab:a=b:=by
    obtain⟨hl1,hl2⟩:=List.pairwise_cons.1 hl;obtain⟨hS1,hS2⟩:=List.pairwise_cons.1 hS;rcases List.mem_cons.1 (h.mem_iff.1 (List.mem_cons_self))with h1|h1
    · exact h1
    · rcases List.mem_cons.1 (h.mem_iff.2 (List.mem_cons_self))with h2|h2
      · exact h2.symm
      · have:=hS1 a h1
        have:=hl1 b h2;omega
   subst hab;rw[ih S (List.perm_cons a |>.1 h) (List.pairwise_cons.1 hl).2 (List.pairwise_cons.1 hS).2]
theorem kk4(w:World)(cs:Array Value)(t:TypeId)(n:Nat):Row (w.alloc (.cells cs t)) (.slice (some ⟨w.heap.size,0,none⟩) n n) n cs.toList:=
 ⟨_,_,rfl,fun j x hj=>⟨w.heap.size,0,rfl,by rw[Nat.zero_add,World.cell?_alloc_new];simpa using hj⟩⟩
def Tab(w:World)(B:Nat)(v:Value)(S:List RP):Prop:=∃X:List RR,OwnR w B v X∧X.map RR.pl=S∧∀r∈X,r.Ok w
theorem Tab.bel{w w':World}{B:Nat}{v:Value}{S:List RP}(h:Tab w B v S)(hb:Below w.heap.size w w'):Tab w' B v S:=by
 obtain⟨X,h1,h2,h3⟩:=h;exact⟨X,OwnR.bel h1 hb,h2,fun r hr=>(h3 r hr).keep hb⟩
theorem Tab.len{w:World}{B:Nat}{v:Value}{S:List RP}(h:Tab w B v S):∃a c,v=.slice a S.length c:=by
 obtain⟨X,h1,h2,h3⟩:=h;obtain⟨a,c,e⟩:=jb4 h1;exact⟨a,c,by rw[e,←h2,List.length_map]⟩
theorem newTab(cs:Array Value)(PS:List PC)(S:List RP)(n:Nat)(w:World)(hT:TW w)(hn:n=PS.length)(hcs:cs.toList=pcells PS)(hne:PS ≠ [])(hlen:PS.length≤1000)(hR:∀p∈PS,p.Right∧(p.tx.size≠0→p.tq=0∧p.ct=0))
 (hS:PS.map PC.row=S) (hdis:S.Pairwise fun p q=>p.fr+p.ct≤q.fr):
 Calls Tryz.prog 169 #[.slice (some ⟨w.heap.size,0,none⟩) n n] (w.alloc (.cells cs 200)) fun e w'=>
  ∃a c,e=.returned (.tuple #[.agg #[.slice a S.length c],.agg #[.int .i64 0,.int .i64 0]])∧Tab w' (w.heap.size+1) (.slice a S.length c) S∧Below w.heap.size w w':=by
 have hrow:=kk4 w cs 200 n;rw[hcs]at hrow;have hlt:S.Pairwise fun a b=>a.fr<b.fr:=by
  refine List.Pairwise.imp_of_mem ?_ hdis;intro a b ha _ h;rw[←hS]at ha;obtain⟨p,hp,rfl⟩:=List.mem_map.1 ha;have:=(vt1 p (hR p hp).1).2.1;omega
 have hd2:PS.Pairwise fun p q=>∀c,¬(p.row.has c∧q.row.has c):=by
  rw[←hS,List.pairwise_map]at hdis;exact hdis.imp fun h c ⟨h1,h2⟩=>by unfold RP.has at h1 h2;omega
 subst hn;refine(vz5 _ PS _ (hT.alloc _) hrow hne hlen hR hd2).mono fun e w' ⟨v,X,he,h1,h2,h3,h4,h5⟩=>?_
 have hX:X.map RR.pl=S:=jw1 _ _ (by rw[←hS];exact h2) (by rw[List.pairwise_map];exact h3) hlt;rw[World.size_alloc]at h1;have ht:Tab w' (w.heap.size+1) v S:=⟨X,h1,hX,h4⟩;obtain⟨a,c,rfl⟩:=ht.len;exact⟨a,c,he,ht,bt (bal (Below.refl _ _) _) h5⟩
theorem vw3(va vb:Value)(A C S S':List RP)(B1 B2:Nat)(w:World)(hA:Tab w B1 va A)(hC:Tab w B2 vb C)(hAne:A ≠ [])(hAl:A.length≤1000)(hCl:C.length≤1000)(hAG:∀r∈A,r.Good)(hCG:∀r∈C,r.Good)
 (hS:ovAll A C 0 A=S') (hp:S'.Perm S) (hlt:S.Pairwise fun a b=>a.fr<b.fr):
 Calls Tryz.prog 173 #[.agg #[va],.agg #[vb]] w fun e w'=>∃a c,e=.returned (.agg #[.slice a S.length c])∧Tab w' w.heap.size (.slice a S.length c) S∧Below w.heap.size w w':=by
 obtain⟨XA,a1,a2,a3⟩:=hA;obtain⟨XC,c1,c2,c3⟩:=hC;have:=over_any va vb XA XC B1 B2 w a1 c1 (by intro e;rw[e]at a2;exact hAne a2.symm) (by rw[←a2,List.length_map]at hAl;exact hAl) (by rw[←c2,List.length_map]at hCl;exact hCl)
  (fun r hr=>hAG _ (by rw[←a2];exact List.mem_map.2 ⟨r,hr,rfl⟩)) a3 (fun r hr=>hCG _ (by rw[←c2];exact List.mem_map.2 ⟨r,hr,rfl⟩)) c3
 rw[a2,c2,hS]at this;refine this.mono fun e w' ⟨v,X,he,h1,h2,h3,h4,h5⟩=>?_
 have hX:X.map RR.pl=S:=jw1 _ _ (h2.trans hp) (by rw[List.pairwise_map];exact h3) hlt;have ht:Tab w' w.heap.size v S:=⟨X,h1,hX,h4⟩;obtain⟨a,c,rfl⟩:=ht.len;exact⟨a,c,he,ht,h5⟩
theorem qz6(v:Value)(S:List RP)(B:Nat)(w:World)(hX:Tab w B v S)(hG:∀r∈S,r.Good)(hl:S.length≤1000):Calls Tryz.prog 149 #[.agg #[v]] w (PairsPost S w.heap.size w):=by
 obtain⟨X,h1,h2,h3⟩:=hX;subst h2;exact vw2 v X B w h1 (fun r hr=>hG _ (List.mem_map.2 ⟨r,hr,rfl⟩)) h3 (by rwa [List.length_map]at hl)
theorem sizeTab(v:Value)(S:List RP)(B:Nat)(w:World)(hX:Tab w B v S)(hG:∀r∈S,r.Good)(hl:S.length≤1000):Calls Tryz.prog 174 #[.agg #[v]] w fun e w'=>e=.returned (.int .i64 (sizeM S))∧Below w.heap.size w w':=by
 obtain⟨X,h1,h2,h3⟩:=hX;subst h2;exact qx9 v X B w h1 (fun r hr=>hG _ (List.mem_map.2 ⟨r,hr,rfl⟩)) (by rwa [List.length_map]at hl)
theorem ks4(v:Value)(S:List RP)(p:Int)(B:Nat)(w:World)(hX:Tab w B v S)(hG:∀r∈S,r.Good)(hl:S.length≤1000)(hp0:0≤p)(hp1:p≤1114111):
 Calls Tryz.prog 184 #[.agg #[v],.int .i32 p] w fun e w'=>e=.returned (.tuple #[.int .i64 (revM S p).1,.bool (revM S p).2])∧Below w.heap.size w w':=by
 obtain⟨X,h1,h2,h3⟩:=hX;subst h2;exact qr0 v X p B w h1 (fun r hr=>hG _ (List.mem_map.2 ⟨r,hr,rfl⟩)) h3 (by rwa [List.length_map]at hl) hp0 hp1
def tS:List RP:=[⟨0,3,65,none⟩,⟨10,2,0,some [120,121]⟩]
def uS:List RP:=[⟨1,1,65,none⟩]
def vS:List RP:=[⟨0,1,65,none⟩,⟨1,1,65,none⟩,⟨2,1,67,none⟩,⟨10,2,0,some [120,121]⟩]
theorem qt4(r:RP)(h:(0≤r.fr∧1≤r.ct∧r.fr+r.ct≤1048576∧0≤r.tq∧r.tq+r.ct≤2097152)∧(match r.sg with|some l=>(l.length:Int)=r.ct|none=>True)):r.Good:=by
 obtain⟨⟨a,b,c,d,e⟩,h⟩:=h;refine⟨a,b,c,d,e,fun l hl=>?_⟩;rw[hl]at h;exact h
theorem vq9:∀r∈tS,r.Good:=by
 intro r hr;simp only[tS,List.mem_cons,List.not_mem_nil,or_false]at hr;rcases hr with rfl|rfl
 all_goals exact qt4 _ ⟨by decide,by decide⟩
theorem uS_good:∀r∈uS,r.Good:=by
 intro r hr;simp only[uS,List.mem_cons,List.not_mem_nil,or_false]at hr;rcases hr with rfl
 all_goals exact qt4 _ ⟨by decide,by decide⟩
theorem qp8:∀r∈vS,r.Good:=by
 intro r hr;simp only[vS,List.mem_cons,List.not_mem_nil,or_false]at hr;rcases hr with rfl|rfl|rfl|rfl
 all_goals exact qt4 _ ⟨by decide,by decide⟩
theorem xy_pts:pts (bl ⟨#[120,121]⟩) = [120,121]:=by decide +kernel
theorem xy_scan:scanL (bl ⟨#[120,121]⟩)=(2,none):=by decide +kernel
theorem new_t(w:World)(hT:TW w):Calls Tryz.prog 169 #[.slice (some ⟨w.heap.size,0,none⟩) 2 2] (w.alloc (.cells #[.int .i64 0,.int .i32 65,.int .i64 3,.string ByteArray.empty,.int .i64 10,.int .i32 0,.int .i64 0,.string ⟨#[120,121]⟩] 200)) fun e w'=>
 ∃a c,e=.returned (.tuple #[.agg #[.slice a 2 c],.agg #[.int .i64 0,.int .i64 0]])∧Tab w' (w.heap.size+1) (.slice a 2 c) tS∧Below w.heap.size w w':=by
 refine newTab _ [⟨0,65,3,ByteArray.empty⟩,⟨10,0,0,⟨#[120,121]⟩⟩] tS 2 w hT rfl rfl (by simp) (by simp) ?_ ?_ ?_
 · intro p hp
   simp only[List.mem_cons,List.not_mem_nil,or_false]at hp;rcases hp with rfl|rfl
   · exact⟨⟨by decide,by decide,by decide,by decide⟩,fun h=>absurd rfl h⟩
   · exact⟨⟨by decide,2,xy_scan,by decide⟩,fun _=>⟨rfl,rfl⟩⟩
 · simp only[List.map_cons,List.map_nil,PC.row,tS]
   rw[xy_pts];rfl
 · simp[tS]
theorem new_u(w:World)(hT:TW w):Calls Tryz.prog 169 #[.slice (some ⟨w.heap.size,0,none⟩) 1 1] (w.alloc (.cells #[.int .i64 1,.int .i32 65,.int .i64 1,.string ByteArray.empty] 200)) fun e w'=>
 ∃a c,e=.returned (.tuple #[.agg #[.slice a 1 c],.agg #[.int .i64 0,.int .i64 0]])∧Tab w' (w.heap.size+1) (.slice a 1 c) uS∧Below w.heap.size w w':=by
 refine newTab _ [⟨1,65,1,ByteArray.empty⟩] uS 1 w hT rfl rfl (by simp) (by simp) ?_ ?_ ?_
 · intro p hp
   simp only[List.mem_cons,List.not_mem_nil,or_false]at hp;rcases hp with rfl
   exact⟨⟨by decide,by decide,by decide,by decide⟩,fun h=>absurd rfl h⟩
 · rfl
 · simp[uS]
theorem over_v(va vb:Value)(B1 B2:Nat)(w:World)(hA:Tab w B1 va uS)(hC:Tab w B2 vb tS):
 Calls Tryz.prog 173 #[.agg #[va],.agg #[vb]] w fun e w'=>∃a c,e=.returned (.agg #[.slice a 4 c])∧Tab w' w.heap.size (.slice a 4 c) vS∧Below w.heap.size w w':=
 vw3 va vb uS tS vS [⟨1,1,65,none⟩,⟨0,1,65,none⟩,⟨2,1,67,none⟩,⟨10,2,0,some [120,121]⟩] B1 B2 w hA hC (by simp[uS]) (by decide) (by decide) uS_good vq9 rfl (List.Perm.swap _ _ _) (by simp[vS])
theorem xf7(v:Value)(B:Nat)(w:World)(hX:Tab w B v vS):Calls Tryz.prog 185 #[.agg #[v],.int .i64 11] w fun e w'=>e=.returned (.tuple #[.int .i32 121,.bool true])∧Below w.heap.size w w':=by
 obtain⟨X,h1,h2,h3⟩:=hX;have hl:X.length=4:=by have:=congrArg List.length h2;simpa[vS]using this
 have hat:∀j,j<4→∃r,X[j]?=some r∧vS[j]?=some r.pl:=fun j hj=>by
  obtain⟨r,hr⟩:=jb6 X j (by omega);exact⟨r,hr,by rw[←h2,List.getElem?_map,hr];rfl⟩
 have hfin:∀j,j<4→(X.getD j default).fin=(vS.getD j ⟨0,0,0,none⟩).fin:=fun j hj=>by
  obtain⟨r,hr,hv⟩:=hat j hj;simp only[List.getD,hr,hv,Option.getD_some]
  rfl
 obtain⟨r,hr,hv⟩:=hat 3 (by omega);have hrp:r.pl=⟨10,2,0,some [120,121]⟩:=by simpa[vS]using hv.symm
 have e0:r.fr=10:=congrArg RP.fr hrp;have e1:r.ct=2:=congrArg RP.ct hrp;have:=qt6 v X B 11 3 r w h1 (fun q hq=>qp8 _ (by rw[←h2];exact List.mem_map.2 ⟨q,hq,rfl⟩)) h3 (by omega) hr (by omega) (by unfold RR.fin;omega)
  (fun j hj=>by
    rw[hfin j (by omega)]
    match j,hj with
    | 0,_=>decide
    | 1,_=>decide
    | 2,_=>decide)
  (fun a b hab hb h=>by
    rw[hl]at hb;rw[hfin a (by omega)]at h;rw[hfin b hb];have:∀a:Fin 4,∀b:Fin 4,a.val≤b.val→11<(vS.getD a.val ⟨0,0,0,none⟩).fin→11<(vS.getD b.val ⟨0,0,0,none⟩).fin:=by decide
    exact this ⟨a,by omega⟩ ⟨b,hb⟩ hab h)
 rw[hrp]at this;exact this
set_option maxRecDepth 100000 in
theorem qx0(w:World)(hT:TW w):Calls Tryz.prog 162 #[] w fun e w'=>e=.returned (.bool true)∧Below w.heap.size w w':=by
 have kS:=fun a b c w=>kj6 a b c w
 have kL:=fun a t w=>qb6 a t w
 simp only[pieceV]at kS kL;have kB:∀w,Calls Tryz.prog 16 #[.agg #[.int .i64 0,.int .i64 0]] w fun e w'=>e=.returned (.bool false)∧Below w.heap.size w w':=fun w=>jb8 0 0 w
 have k2:=fun v B w h=>sizeTab v tS B w h vq9 (by decide)
 rw[show sizeM tS=5 from by decide]at k2;have k3:=fun v B w h=>ks4 v vS 65 B w h qp8 (by decide) (by decide) (by decide)
 rw[show revM vS 65=(0,true) from by decide]at k3;have k4:=fun v B w h=>ks4 v vS 66 B w h qp8 (by decide) (by decide) (by decide)
 rw[show revM vS 66=(0,false) from by decide]at k4;have kt:=fun w hT=>new_t w hT
 have ku:=fun w hT=>new_u w hT
 have ko:=fun va vb B1 B2 w h1 h2=>over_v va vb B1 B2 w h1 h2
 have kf:=fun v B w h=>xf7 v B w h
 have KS:=Lib.hid kS;have KL:=Lib.hid kL;have KB:=Lib.hid kB;have K2:=Lib.hid k2;have K3:=Lib.hid k3;have K4:=Lib.hid k4;have KT:=Lib.hid kt;have KU:=Lib.hid ku;have KO:=Lib.hid ko;have KF:=Lib.hid kf;clear kS kL kB k2 k3 k4 kt ku ko kf
 go_enter Tryz.func162,Tryz.ntmps162
 go_wp2_with (first|(go_at_call 145;refine(KS.out _ _ _ _).mono ?_;rintro e w1 ⟨rfl,hb1⟩)|(go_at_call 171;refine(KL.out _ _ _).mono ?_;rintro e w2 ⟨rfl,hb2⟩))
 have hT2:=(hT.bel hb1).bel hb2;have hw2:=bt hb1 hb2;refine(KT.out w2 hT2).mono ?_;rintro e w3 ⟨a1,c1,rfl,ht1,hb3⟩;have hw3:=bt hw2 hb3;have hT3:=hT2.bel hb3;clear hb1 hb2 hb3 hw2 hT2
 go_wp2_with (go_at_call 145;refine(KS.out _ _ _ _).mono ?_;rintro e w4 ⟨rfl,hb4⟩)
 have x1:=kc hb4 (show((w3.alloc (.cells #[.slice a1 2 c1] 175)).alloc (.cells #[.int .i64 0,.int .i64 0] 54)).cell? ⟨w3.heap.size,0,none⟩=some (.slice a1 2 c1) from by go_simp);have x2:=kc hb4 (show((w3.alloc (.cells #[.slice a1 2 c1] 175)).alloc (.cells #[.int .i64 0,.int .i64 0] 54)).cell? ⟨w3.heap.size+1,0,none⟩=some (.int .i64 0) from by go_simp);have x3:=kc hb4 (show((w3.alloc (.cells #[.slice a1 2 c1] 175)).alloc (.cells #[.int .i64 0,.int .i64 0] 54)).cell? ⟨w3.heap.size+1,1,none⟩=some (.int .i64 0) from by go_simp);have hb34:Below w3.heap.size w3 w4:=bt (bal (bal (Below.refl _ _) _) _) hb4;have ht4:=ht1.bel hb34;have hw4:=bt hw3 hb34;have hT4:=hT3.bel hb34;clear hb4 hb34 ht1 hT3;refine(KU.out w4 hT4).mono ?_;rintro e w5 ⟨a2,c2,rfl,ht2,hb5⟩;have y1:=kc hb5 x1;have y2:=kc hb5 x2;have y3:=kc hb5 x3;have ht5:=ht4.bel hb5;have hw5:=bt hw4 hb5;have hl5:=jd2 y2;have hl5':w3.heap.size<w5.heap.size:=by omega
 clear x1 x2 x3 hb5 ht4
 go_wp2_with fail
 have hbz:Below w5.heap.size w5 ((w5.alloc (.cells #[.slice a2 1 c2] 175)).alloc (.cells #[.int .i64 0,.int .i64 0] 54)):=bal (bal (Below.refl _ _) _) _;have z2:((w5.alloc (.cells #[.slice a2 1 c2] 175)).alloc (.cells #[.int .i64 0,.int .i64 0] 54)).cell? ⟨w5.heap.size+1,0,none⟩=some (.int .i64 0):=by go_simp
 have z3:((w5.alloc (.cells #[.slice a2 1 c2] 175)).alloc (.cells #[.int .i64 0,.int .i64 0] 54)).cell? ⟨w5.heap.size+1,1,none⟩=some (.int .i64 0):=by go_simp
 refine(KO.out _ _ _ _ _ (ht2.bel hbz) (ht5.bel hbz)).mono ?_;rintro e w6 ⟨a3,c3,rfl,ht3,hb6⟩;have hb56:=bt hbz hb6;have r1:=kc hb56 y1;have r2:=kc hb56 y2;have r3:=kc hb56 y3;have r4:=kc hb6 z2;have r5:=kc hb6 z3;have hl6:=jd2 r4;have hl6':w3.heap.size+1<w6.heap.size:=by omega
 have hl6'':w3.heap.size<w6.heap.size:=by omega
 have ht6:=ht5.bel hb56;have hw6:=bt hw5 hb56;clear y1 y2 y3 z2 z3 hbz hb6 hb56 ht5 ht2;have hbq:Below w6.heap.size w6 (w6.alloc (.cells #[.slice a3 4 c3] 175)):=bal (Below.refl _ _) _;have r1:=kc hbq r1;have r2:=kc hbq r2;have r3:=kc hbq r3;have r4:=kc hbq r4;have r5:=kc hbq r5;have r6:(w6.alloc (.cells #[.slice a3 4 c3] 175)).cell? ⟨w6.heap.size,0,none⟩=some (.slice a3 4 c3):=by rw[World.cell?_alloc_new];rfl
 have ht3:=ht3.bel hbq;have ht6:=ht6.bel hbq;have hcur:=bt hw6 hbq;clear hbq
 go_wp2_with fail
 generalize w6.alloc (.cells #[.slice a3 4 c3] 175)=W6 at *;generalize w6.heap.size=p6 at *
 go_wp2_with (first
  | (go_at_call 184;with_reducible refine(K3.out _ _ _ ht3).mono ?_;rintro e wq ⟨rfl,hbq⟩;have ht3:=ht3.bel hbq;have ht6:=ht6.bel hbq;have hcur:=bt hcur hbq;have r1:=kc hbq r1;have r2:=kc hbq r2;have r3:=kc hbq r3;have r4:=kc hbq r4;have r5:=kc hbq r5;have r6:=kc hbq r6)
  | (go_at_call 184;with_reducible refine(K4.out _ _ _ ht3).mono ?_;rintro e wq ⟨rfl,hbq⟩;have ht3:=ht3.bel hbq;have ht6:=ht6.bel hbq;have hcur:=bt hcur hbq;have r1:=kc hbq r1;have r2:=kc hbq r2;have r3:=kc hbq r3;have r4:=kc hbq r4;have r5:=kc hbq r5;have r6:=kc hbq r6)
  | (go_at_call 185;with_reducible refine(KF.out _ _ _ ht3).mono ?_;rintro e wq ⟨rfl,hbq⟩;have ht3:=ht3.bel hbq;have ht6:=ht6.bel hbq;have hcur:=bt hcur hbq;have r1:=kc hbq r1;have r2:=kc hbq r2;have r3:=kc hbq r3;have r4:=kc hbq r4;have r5:=kc hbq r5;have r6:=kc hbq r6)
  | (go_at_call 16;with_reducible refine(KB.out _).mono ?_;rintro e wq ⟨rfl,hbq⟩;have ht6:=ht6.bel hbq;have hcur:=bt hcur hbq;have r1:=kc hbq r1;have r2:=kc hbq r2;have r3:=kc hbq r3;have r4:=kc hbq r4;have r5:=kc hbq r5;have r6:=kc hbq r6)
  | (go_at_call 174;with_reducible refine(K2.out _ _ _ ht6).mono ?_;rintro e wq ⟨rfl,hbq⟩;have hcur:=bt hcur hbq))
 go_ret
 exact⟨rfl,hcur⟩
def sgnF(l:List UInt8):Nat→Nat→List UInt8
 | _,0=>[]
 | k,n+1=>encR (hexAt l k 4)++sgnF l (k+1) n
def sgnM(l:List UInt8):List UInt8:=sgnF l 0 (l.length/5)
theorem xg4(l:List UInt8)(b:UInt8)(r:List UInt8)(h:l=b::r)(hb:b.toNat<128):dec l=(b.toNat,1):=by
 subst h;unfold dec Lib.decodeN;simp[hb]
theorem hexv_lt(b:UInt8)(h:0≤hexv b):b.toNat<128:=by
 have:∀b:Fin 256,0≤hexv (UInt8.ofNat b.val)→b.val<128:=by decide +kernel
 have h2:=this ⟨b.toNat,b.toNat_lt⟩ (by simpa using h);exact h2
theorem qt1(c:UInt8)(w:World)(h:c.toNat<128):
 Calls Tryz.prog 206 #[.string ⟨#[48,49,50,51,52,53,54,55,56,57,65,66,67,68,69,70]⟩,.int .i32 (c.toNat:Int)] w fun e w'=>e=.returned (.int .i64 (hexv c))∧w=w':=by
 refine(Tryz.strings_IndexRune_ascii _ _ w (by omega) (by omega)).mono fun e w' h=>?_
 refine⟨?_,h.2.symm⟩;rw[h.1];unfold hexv;simp
set_option maxRecDepth 100000 in
theorem vr4(s:ByteArray)(w:World)(hs:s.size≤100000)(hH:HexList (bl s)):
 Calls Tryz.prog 172 #[.string s] w fun e w'=>e=.returned (.string ⟨(sgnM (bl s)).toArray⟩)∧Below w.heap.size w w':=by
 obtain⟨R,hR⟩:∃R,R=sgnM (bl s):=⟨_,rfl⟩;rw[←hR];have HL:Hid ((bl s).length=s.size):=jb1 s;obtain⟨B,hB⟩:∃B,B=w.heap.size:=⟨_,rfl⟩;rw[←hB];have hBw:Below B w w:=by rw[hB];exact Below.refl _ _
 have hBl:B≤w.heap.size:=by omega
 have HR:=Lib.hid hR;have HH:=Lib.hid hH;have HB:=Lib.hid hB;clear hR hH hB
 go_enter Tryz.func172,Tryz.ntmps172
 go_wp2_with fail
 go_loopw [0,3] (fun y v wr=>∃(k n:Nat) (x:ByteArray) (acc:List UInt8),y=.string x∧Hid (bl x=(bl s).drop (k*5))∧x.size+k*5=s.size∧Hid (n=x.size/5)∧acc.length≤4*k∧Own wr B v acc∧Hid (R=acc++sgnF (bl s) k n)∧Below B w wr) (fun y _ _=>match y with | .string x=>x.size|_=>0)
 case atStart=>exact⟨0,s.size/5,s,[],rfl,by show bl s=_;simp,by omega,rfl,by simp,Own.nil _ _,by show R=_;rw[HR.out];unfold sgnM;rw[HL.out];rfl,hBw⟩
 case round=>
  obtain⟨wo,rfl⟩:∃wo:World,wo=wr:=⟨_,rfl⟩;obtain⟨k,n,x,acc,rfl,hx,hxs,hn,hal,hown,hRk,hbel⟩:=hrel;by_cases hlt:5≤x.size
  · obtain⟨n,rfl⟩:∃m,n=m+1:=⟨n-1,by have:=hn.out;omega⟩
    have e1:=hRk.out;rw[sgnF]at e1;have hy:bl (x.extract 0 4)=((bl s).drop (k*5)).take 4:=by
     unfold bl at *;rw[Lib.extract_data,hx.out];simp
    have hys:(x.extract 0 4).size=4:=by
     rw[←jb1,hy,List.length_take,List.length_drop,HL.out];omega
    obtain⟨y,hyy⟩:∃y,y=x.extract 0 4:=⟨_,rfl⟩;rw[←hyy]at hy hys;have hd5:decide ((5:Int)≤(x.size:Int))=true:=by simp;omega
    have E1:=Lib.hid e1;have HY:=Lib.hid hy;have HYY:=Lib.hid hyy;have HYS:=Lib.hid hys;clear e1 hy hyy hys;clear hRk
    go_wp2_with fail
    rw[←HYY.out];have hI0:=ItS.made wo y;have hb0:Below wo.heap.size wo (wo.iter y 0):=(Below.refl _ _).alloc (Nat.le_refl _) _;generalize wo.iter y 0=W0 at *;obtain⟨r,hr⟩:∃r,r=wo.heap.size:=⟨_,rfl⟩;rw[←hr]at hI0 ⊢;have hBr:B≤r:=by rw[hr];exact Nat.le_trans hBl hbel.size
    have HRR:=Lib.hid hr;clear hr
    go_loopw [4] (fun p wz=>∃j:Nat,j≤4∧p=.int .i32 (hexAt (bl s) k j)∧ItS wz r y j∧wo.heap.size≤wz.heap.size∧Hid (∀q,q<wo.heap.size→wz.heap[q]?=wo.heap[q]?)∧Below B w wz) (fun _ wz=>4-wz.iterPos r)
    case atStart=>exact⟨0,by omega,rfl,hI0,hb0.size,fun q hq=>hb0.block q hq,hbel.trans (hb0.mono (Nat.le_trans hBl hbel.size))⟩
    case round=>
     obtain⟨j,hj,rfl,hI,hsz,hkeep,hbz⟩:=hrel;have hpos:=hI.pos;have HP:=Lib.hid hpos;clear hpos;clear hI0 hb0;by_cases hj4:j<4
     · obtain⟨h0,h1⟩:=kh2 (bl s) k j HH.out (by rw[HL.out];omega) hj
       have h2:(16:Int)^j≤4096:=by
        match j,hj4 with
        | 0,_=>decide
        | 1,_=>decide
        | 2,_=>decide
        | 3,_=>decide
       have h3:hexAt (bl s) k j<4096:=by omega
       obtain⟨d0,d1⟩:=HH.out k j (by rw[HL.out];omega) hj4;have hs1:hexAt (bl s) k (j+1)=hexAt (bl s) k j*16+hexv ((bl s).getD (k*5+j) 0):=rfl;have hyj:(bl y).drop j=(bl s).getD (k*5+j) 0::(bl y).drop (j+1):=by
        have hl:j<(bl y).length:=by rw[jb1,HYS.out];exact hj4
        rw[jd1 _ j hl]
        congr 1
        have hlen':k*5+j<(bl s).length:=by rw[HL.out];omega
        have:(bl y)[j]?=(bl s)[k*5+j]?:=by rw[HY.out,List.getElem?_take,if_pos hj4,List.getElem?_drop]
        rw[List.getElem?_eq_getElem hl,List.getElem?_eq_getElem hlen']at this;rw[List.getD_eq_getElem?_getD,List.getElem?_eq_getElem hlen'];exact Option.some.inj this
       generalize (bl s).getD (k*5+j) 0=c at *;have hc:=hexv_lt c d0;have hdec:Hid (dec ((bl y).drop j)=(c.toNat,1)):=xg4 _ c _ hyj hc;have c1:=fun w=>qt1 c w hc
       generalize hexAt (bl s) k j=p at *;generalize hexv c=d at *;have e2:bits .or .i32 (p*16) d=p*16+d:=qt0 _ _ (by omega) (by omega) (by omega) (by omega) (by omega);have hjy:j<y.size:=by rw[HYS.out];exact hj4
       have C1:=Lib.hid c1;have HS:=Lib.hid hs1;have HYJ:=Lib.hid hyj;clear c1 hs1 hyj;clear h1 h2
       go_wp2_with (first
        | (at_next;refine jd8 rfl _ rfl _ r y j rfl hI hjy c.toNat 1 hdec ?_;intro w3 hI3 ho3 hg3)
        | (go_at_call 206;with_reducible refine(C1.out _).mono ?_;rintro e w' ⟨rfl,rfl⟩))
       have hp3:=hI3.pos;have hb3:Below B w w3:=hbz.grown hg3 (Nat.le_trans hBl hbz.size) (by intro q hq;cases hq;exact hBr);have hk3:∀q,q<wo.heap.size→w3.heap[q]?=wo.heap[q]?:=fun q hq=>(ho3 q (by rw[HRR.out];exact Nat.ne_of_lt hq)).trans (hkeep.out q hq)
       have HP3:=Lib.hid hp3;have HK3:=Lib.hid hk3;clear hp3 hk3;clear ho3
       go_roundw
       case rel=>exact⟨j+1,by omega,by rw[HS.out],hI3,Nat.le_trans hsz hg3.size,HK3.out,hb3⟩
       case measure=>rw[HP.out,HP3.out];omega
     · have hj':j=4:=by omega
       subst hj';have hle:y.size≤4:=by rw[HYS.out];exact Nat.le_refl _
       obtain⟨h0,h1⟩:=kh2 (bl s) k 4 HH.out (by rw[HL.out];omega) (Nat.le_refl _);have hoz:Own wr B u3 acc:=jb5 hown fun q hq=>hkeep.out q (jb7 hown q hq).2
       have hBz:B≤wr.heap.size:=Nat.le_trans (Nat.le_trans hBl hbel.size) hsz;generalize hexAt (bl s) k 4=p at *;have h1':p<65536:=h1;have hel:=jj2 p;clear h1
       go_wp2_with (first
        | (at_next;refine jk6 rfl _ rfl _ r y 4 rfl hI hle ?_)
        | (go_at_call 150;refine(jh0 B _ acc p _ (by omega) (by omega) hoz (by omega) hBz).mono ?_;rintro e w5 ⟨v',rfl,hown5,hb5⟩))
       have hx5:bl (x.extract 5 x.size)=(bl s).drop ((k+1)*5):=by
        rw[show bl (x.extract 5 x.size)=(bl x).drop 5 from jh6 x 5,hx.out,List.drop_drop]
        congr 1;omega
       have hx5s:(x.extract 5 x.size).size=x.size-5:=by rw[←jb1,hx5,List.length_drop,HL.out];omega
       have e2:R=(acc++encR p)++sgnF (bl s) (k+1) n:=by rw[E1.out,List.append_assoc]
       have hbf:=hbz.trans hb5;have HX5:=Lib.hid hx5;have E2:=Lib.hid e2;have HX5S:=Lib.hid hx5s;clear hx5 e2 hx5s
       go_roundw
       case rel=>exact⟨k+1,n,x.extract 5 x.size,acc++encR p,rfl,HX5.out,by have:=HX5S.out;omega,by show n=_;have:=hn.out;rw[HX5S.out];omega,by rw[List.length_append];omega,hown5,E2.out,hbf⟩
       case measure=>have:=HX5S.out;simp only;omega
  · have hn0:n=0:=by have:=hn.out;omega
    subst hn0;have e1:=hRk.out;rw[sgnF,List.append_nil]at e1;have hcv:=jq6 hown;have E1:=Lib.hid e1;clear e1
    go_wp2_with fail
    go_ret
    exact⟨by rw[E1.out];rfl,hbel⟩
def strCall(o:Oper):ByteArray:=match o.op with
 | .call c=>match c.args.toList with
  | Operand.const (Value.string s)::_=>s
  | _=>ByteArray.empty
 | _=>ByteArray.empty
def callAt(f:Func)(region op:Nat):ByteArray:=match f.body with
 | some c=>match regionOps c region with
  | some ops=>match ops[op]? with|some o=>strCall o|none=>ByteArray.empty
  | none=>ByteArray.empty
 | none=>ByteArray.empty
noncomputable def koB:ByteArray:=callAt Tryz.f146 1 1
noncomputable def koT:ByteArray:=⟨(sgnM (bl koB)).toArray⟩
theorem koB_ok:koB.size=640∧hexLin (bl koB) 0=true:=by decide +kernel
theorem qb8:scanL (bl koT)=(128,none):=by decide +kernel
theorem koT_size:koT.size≤1000:=by decide +kernel
noncomputable def b0B:ByteArray:=callAt Tryz.f148 1 2
noncomputable def b0T:ByteArray:=⟨(sgnM (bl b0B)).toArray⟩
theorem b0B_ok:b0B.size=240∧hexLin (bl b0B) 0=true:=by decide +kernel
theorem qd7:scanL (bl b0T)=(48,none):=by decide +kernel
theorem b0T_size:b0T.size≤1000:=by decide +kernel
noncomputable def f0B:ByteArray:=callAt Tryz.f148 1 5
noncomputable def f0T:ByteArray:=⟨(sgnM (bl f0B)).toArray⟩
theorem f0B_ok:f0B.size=80∧hexLin (bl f0B) 0=true:=by decide +kernel
theorem qc8:scanL (bl f0T)=(16,none):=by decide +kernel
theorem f0T_size:f0T.size≤1000:=by decide +kernel
theorem vr5(s T:ByteArray)(S:ByteArray)(w:World)(hs:s=S)(hS:S.size≤1000∧hexLin (bl S) 0=true)(hT:T=⟨(sgnM (bl S)).toArray⟩):
 Calls Tryz.prog 172 #[.string s] w fun e w'=>e=.returned (.string T)∧Below w.heap.size w w':=by
 subst hs hT;exact vr4 s w (by omega) (kn4 _ hS.2)
end Go.Proofs.YtagjkmkmphamoaaGreatDoor
