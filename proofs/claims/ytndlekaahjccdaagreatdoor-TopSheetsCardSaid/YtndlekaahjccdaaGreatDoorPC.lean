/- PC -/
import Derived.Test.YtndlekaahjccdaaGreatDoorPB
set_option linter.all false
set_option maxRecDepth 100000
set_option maxHeartbeats 40000000
set_option maxHeartbeats 2000000
noncomputable section
namespace Go.Proofs.YtndlekaahjccdaaGreatDoor
open Go.RowKit Go.Proofs.Tryz
theorem y2l:∀(l S:List RP),l.Perm S->(l.Pairwise fun a b=>a.fr<=b.fr)->(S.Pairwise fun a b=>a.fr<b.fr)->l=S:=by
 intro l
 induction l with
 | nil=>intro S h _ _;exact h.nil_eq
 | cons a l ih=>
  intro S h hl hS;cases S with
  | nil=>exact absurd h.length_eq (by simp)
  | cons b S=>
   have H6:a=b:=by
    obtain⟨H5,H8⟩:=List.pairwise_cons.1 hl;obtain⟨H7,H9⟩:=List.pairwise_cons.1 hS;rcases List.mem_cons.1 (h.mem_iff.1 (List.mem_cons_self))with h1|h1
    . exact h1
    . rcases List.mem_cons.1 (h.mem_iff.2 (List.mem_cons_self))with h2|h2
      . exact h2.symm
      . have:=H7 a h1
        have:=H5 b h2;omega
   subst H6;rw[ih S (List.perm_cons a |>.1 h) (List.pairwise_cons.1 hl).2 (List.pairwise_cons.1 hS).2]
theorem yEL(w:World)(cs:Array Value)(t:TypeId)(n:Nat):Row (w.alloc (.cells cs t)) (.slice (some ⟨w.heap.size,0,none⟩) n n) n cs.toList:=
 ⟨_,_,rfl,fun j x hj=>⟨w.heap.size,0,rfl,by rw[Nat.zero_add,World.cell?_alloc_new];simpa using hj⟩⟩
def Tab(w:World)(B:Nat)(v:Value)(S:List RP):Prop:=∃X:List RR,OwnR w B v X/\X.map RR.pl=S/\∀r∈X,r.Ok w
theorem Tab.bel{w w':World}{B:Nat}{v:Value}{S:List RP}(h:Tab w B v S)(hb:Below w.heap.size w w'):Tab w' B v S:=by
 obtain⟨X,h1,h2,h3⟩:=h;exact⟨X,OwnR.bel h1 hb,h2,fun r hr=>(h3 r hr).keep hb⟩
theorem Tab.len{w:World}{B:Nat}{v:Value}{S:List RP}(h:Tab w B v S):∃a c,v=.slice a S.length c:=by
 obtain⟨X,h1,h2,h3⟩:=h;obtain⟨a,c,e⟩:=zN h1;exact⟨a,c,by rw[e,<-h2,List.length_map]⟩
theorem yIb(cs:Array Value)(PS:List PC)(S:List RP)(n:Nat)(w:World)(hT:TW w)(hn:n=PS.length)(Hb:cs.toList=y5C PS)(H8:PS ≠ [])(H7:PS.length<=1000)(hR:∀p∈PS,p.Right/\(p.tx.size≠0->p.tq=0/\p.ct=0))
 (hS:PS.map PC.row=S) (H5:S.Pairwise fun p q=>p.fr+p.ct<=q.fr):
 Calls prog 329 #[.slice (some ⟨w.heap.size,0,none⟩) n n] (w.alloc (.cells cs 289)) fun e w'=>
  ∃a c,e=.returned (.tuple #[.agg #[.slice a S.length c],.agg #[.int .i64 0,.int .i64 0]])/\Tab w' (w.heap.size+1) (.slice a S.length c) S/\Below w.heap.size w w':=by
 have H6:=yEL w cs 289 n;rw[Hb]at H6;have H9:S.Pairwise fun a b=>a.fr<b.fr:=by
  refine List.Pairwise.imp_of_mem ?_ H5;intro a b ha _ h;rw[<-hS]at ha;obtain⟨p,hp,rfl⟩:=List.mem_map.1 ha;have:=(yEM p (hR p hp).1).2.1;omega
 have Ha:PS.Pairwise fun p q=>∀c,¬(p.row.has c/\q.row.has c):=by
  rw[<-hS,List.pairwise_map]at H5;exact H5.imp fun h c ⟨h1,h2⟩=>by unfold RP.has at h1 h2;omega
 subst hn;refine(yEz _ PS _ (hT.alloc _) H6 H8 H7 hR Ha).mono fun e w' ⟨v,X,he,h1,h2,h3,h4,h5⟩=>?_
 have hX:X.map RR.pl=S:=y2l _ _ (by rw[<-hS];exact h2) (by rw[List.pairwise_map];exact h3) H9;rw[World.size_alloc]at h1;have ht:Tab w' (w.heap.size+1) v S:=⟨X,h1,hX,h4⟩;obtain⟨a,c,rfl⟩:=ht.len;exact⟨a,c,he,ht,bt (bal (z8) _) h5⟩
theorem yEg(va vb:Value)(A C S S':List RP)(B1 B2:Nat)(w:World)(hA:Tab w B1 va A)(hC:Tab w B2 vb C)(H5:A ≠ [])(H7:A.length<=1000)(H6:C.length<=1000)(Ha:∀r∈A,r.Good)(H9:∀r∈C,r.Good)
 (hS:y3Y A C 0 A=S') (hp:S'.Perm S) (H8:S.Pairwise fun a b=>a.fr<b.fr):
 Calls prog 333 #[.agg #[va],.agg #[vb]] w fun e w'=>∃a c,e=.returned (.agg #[.slice a S.length c])/\Tab w' w.heap.size (.slice a S.length c) S/\Below w.heap.size w w':=by
 obtain⟨XA,a1,a2,a3⟩:=hA;obtain⟨XC,c1,c2,c3⟩:=hC;have:=yHQ va vb XA XC B1 B2 w a1 c1 (by intro e;rw[e]at a2;exact H5 a2.symm) (by rw[<-a2,List.length_map]at H7;exact H7) (by rw[<-c2,List.length_map]at H6;exact H6)
  (fun r hr=>Ha _ (by rw[<-a2];exact List.mem_map.2 ⟨r,hr,rfl⟩)) a3 (fun r hr=>H9 _ (by rw[<-c2];exact List.mem_map.2 ⟨r,hr,rfl⟩)) c3
 rw[a2,c2,hS]at this;refine this.mono fun e w' ⟨v,X,he,h1,h2,h3,h4,h5⟩=>?_
 have hX:X.map RR.pl=S:=y2l _ _ (h2.trans hp) (by rw[List.pairwise_map];exact h3) H8;have ht:Tab w' w.heap.size v S:=⟨X,h1,hX,h4⟩;obtain⟨a,c,rfl⟩:=ht.len;exact⟨a,c,he,ht,h5⟩
theorem yBE(v:Value)(S:List RP)(B:Nat)(w:World)(hX:Tab w B v S)(hG:∀r∈S,r.Good)(hl:S.length<=1000):Calls prog 277 #[.agg #[v]] w (y5v S w.heap.size w):=by
 obtain⟨X,h1,h2,h3⟩:=hX;subst h2;exact yEf v X B w h1 (fun r hr=>hG _ (List.mem_map.2 ⟨r,hr,rfl⟩)) h3 (by rwa [List.length_map]at hl)
theorem yJ6(v:Value)(S:List RP)(B:Nat)(w:World)(hX:Tab w B v S)(hG:∀r∈S,r.Good)(hl:S.length<=1000):Calls prog 334 #[.agg #[v]] w fun e w'=>e=.returned (.int .i64 (sizeM S))/\Below w.heap.size w w':=by
 obtain⟨X,h1,h2,h3⟩:=hX;subst h2;exact yB2 v X B w h1 (fun r hr=>hG _ (List.mem_map.2 ⟨r,hr,rfl⟩)) (by rwa [List.length_map]at hl)
theorem y6K(v:Value)(S:List RP)(p:Int)(B:Nat)(w:World)(hX:Tab w B v S)(hG:∀r∈S,r.Good)(hl:S.length<=1000)(H6:0<=p)(H5:p<=1114111):
 Calls prog 342 #[.agg #[v],.int .i32 p] w fun e w'=>e=.returned (.tuple #[.int .i64 (revM S p).1,.bool (revM S p).2])/\Below w.heap.size w w':=by
 obtain⟨X,h1,h2,h3⟩:=hX;subst h2;exact y9o v X p B w h1 (fun r hr=>hG _ (List.mem_map.2 ⟨r,hr,rfl⟩)) h3 (by rwa [List.length_map]at hl) H6 H5
def tS:List RP:=[⟨0,3,65,none⟩,⟨10,2,0,some [120,121]⟩]
def uS:List RP:=[⟨1,1,65,none⟩]
def vS:List RP:=[⟨0,1,65,none⟩,⟨1,1,65,none⟩,⟨2,1,67,none⟩,⟨10,2,0,some [120,121]⟩]
theorem yAJ(r:RP)(h:(0<=r.fr/\1<=r.ct/\r.fr+r.ct<=1048576/\0<=r.tq/\r.tq+r.ct<=2097152)/\(match r.sg with|some l=>(l.length:Int)=r.ct|none=>True)):r.Good:=by
 obtain⟨⟨a,b,c,d,e⟩,h⟩:=h;refine⟨a,b,c,d,e,fun l hl=>?_⟩;rw[hl]at h;exact h
theorem yDk:∀r∈tS,r.Good:=by
 intro r hr;simp only[tS,List.mem_cons,List.not_mem_nil,or_false]at hr;rcases hr with rfl|rfl
 all_goals exact yAJ _ ⟨by decide,by decide⟩
theorem yIv:∀r∈uS,r.Good:=by
 intro r hr;simp only[uS,List.mem_cons,List.not_mem_nil,or_false]at hr;rcases hr with rfl
 all_goals exact yAJ _ ⟨by decide,by decide⟩
theorem y9U:∀r∈vS,r.Good:=by
 intro r hr;simp only[vS,List.mem_cons,List.not_mem_nil,or_false]at hr;rcases hr with rfl|rfl|rfl|rfl
 all_goals exact yAJ _ ⟨by decide,by decide⟩
theorem xy_pts:pts (bl ⟨#[120,121]⟩) = [120,121]:=by decide +kernel
theorem yIp:scanL (bl ⟨#[120,121]⟩)=(2,none):=by decide +kernel
theorem new_t(w:World)(hT:TW w):Calls prog 329 #[.slice (some ⟨w.heap.size,0,none⟩) 2 2] (w.alloc (.cells #[.int .i64 0,.int .i32 65,.int .i64 3,.string ByteArray.empty,.int .i64 10,.int .i32 0,.int .i64 0,.string ⟨#[120,121]⟩] 289)) fun e w'=>
 ∃a c,e=.returned (.tuple #[.agg #[.slice a 2 c],.agg #[.int .i64 0,.int .i64 0]])/\Tab w' (w.heap.size+1) (.slice a 2 c) tS/\Below w.heap.size w w':=by
 refine yIb _ [⟨0,65,3,ByteArray.empty⟩,⟨10,0,0,⟨#[120,121]⟩⟩] tS 2 w hT rfl rfl (by simp) (by simp) ?_ ?_ ?_
 . intro p hp
   simp only[List.mem_cons,List.not_mem_nil,or_false]at hp;rcases hp with rfl|rfl
   . exact⟨⟨by decide,by decide,by decide,by decide⟩,fun h=>absurd rfl h⟩
   . exact⟨⟨by decide,2,yIp,by decide⟩,fun _=>⟨rfl,rfl⟩⟩
 . simp only[List.map_cons,List.map_nil,PC.row,tS]
   rw[xy_pts];rfl
 . simp[tS]
theorem new_u(w:World)(hT:TW w):Calls prog 329 #[.slice (some ⟨w.heap.size,0,none⟩) 1 1] (w.alloc (.cells #[.int .i64 1,.int .i32 65,.int .i64 1,.string ByteArray.empty] 289)) fun e w'=>
 ∃a c,e=.returned (.tuple #[.agg #[.slice a 1 c],.agg #[.int .i64 0,.int .i64 0]])/\Tab w' (w.heap.size+1) (.slice a 1 c) uS/\Below w.heap.size w w':=by
 refine yIb _ [⟨1,65,1,ByteArray.empty⟩] uS 1 w hT rfl rfl (by simp) (by simp) ?_ ?_ ?_
 . intro p hp
   simp only[List.mem_cons,List.not_mem_nil,or_false]at hp;rcases hp with rfl
   exact⟨⟨by decide,by decide,by decide,by decide⟩,fun h=>absurd rfl h⟩
 . rfl
 . simp[uS]
theorem over_v(va vb:Value)(B1 B2:Nat)(w:World)(hA:Tab w B1 va uS)(hC:Tab w B2 vb tS):
 Calls prog 333 #[.agg #[va],.agg #[vb]] w fun e w'=>∃a c,e=.returned (.agg #[.slice a 4 c])/\Tab w' w.heap.size (.slice a 4 c) vS/\Below w.heap.size w w':=
 yEg va vb uS tS vS [⟨1,1,65,none⟩,⟨0,1,65,none⟩,⟨2,1,67,none⟩,⟨10,2,0,some [120,121]⟩] B1 B2 w hA hC (by simp[uS]) (by decide) (by decide) yIv yDk rfl (List.Perm.swap _ _ _) (by simp[vS])
theorem yFl(v:Value)(B:Nat)(w:World)(hX:Tab w B v vS):Calls prog 343 #[.agg #[v],.int .i64 11] w fun e w'=>e=.returned (.tuple #[.int .i32 121,.bool true])/\Below w.heap.size w w':=by
 obtain⟨X,h1,h2,h3⟩:=hX;have hl:X.length=4:=by have:=congrArg List.length h2;simpa[vS]using this
 have H7:∀j,j<4->∃r,X[j]?=some r/\vS[j]?=some r.pl:=fun j hj=>by
  obtain⟨r,hr⟩:=zM X j (by omega);exact⟨r,hr,by rw[<-h2,List.getElem?_map,hr];rfl⟩
 have H5:∀j,j<4->(X.getD j default).fin=(vS.getD j ⟨0,0,0,none⟩).fin:=fun j hj=>by
  obtain⟨r,hr,hv⟩:=H7 j hj;simp only[List.getD,hr,hv,Option.getD_some];rfl
 obtain⟨r,hr,hv⟩:=H7 3 (by omega);have H6:r.pl=⟨10,2,0,some [120,121]⟩:=by simpa[vS]using hv.symm
 have e0:r.fr=10:=congrArg RP.fr H6;have e1:r.ct=2:=congrArg RP.ct H6;have:=yAM v X B 11 3 r w h1 (fun q hq=>y9U _ (by rw[<-h2];exact List.mem_map.2 ⟨q,hq,rfl⟩)) h3 (by omega) hr (by omega) (by unfold RR.fin;omega)
  (fun j hj=>by
   rw[H5 j (by omega)]
   match j,hj with
   | 0,_=>decide
   | 1,_=>decide
   | 2,_=>decide)
  (fun a b H8 hb h=>by
   rw[hl]at hb;rw[H5 a (by omega)]at h;rw[H5 b hb];have:∀a:Fin 4,∀b:Fin 4,a.val<=b.val->11<(vS.getD a.val ⟨0,0,0,none⟩).fin->11<(vS.getD b.val ⟨0,0,0,none⟩).fin:=by decide
   exact this ⟨a,by omega⟩ ⟨b,hb⟩ H8 h)
 rw[H6]at this;exact this
theorem y5p(w:World)(hT:TW w):Calls prog 298 #[] w fun e w'=>e=.returned (.bool true)/\Below w.heap.size w w':=by
 have kS:=fun a b c w=>y50 a b c w
 have kL:=fun a t w=>y7Z a t w
 simp only[y0L]at kS kL;have kB:∀w,Calls prog 11 #[.agg #[.int .i64 0,.int .i64 0]] w fun e w'=>e=.returned (.bool false)/\Below w.heap.size w w':=fun w=>y0a 0 0 w
 have k2:=fun v B w h=>yJ6 v tS B w h yDk (by decide)
 rw[show sizeM tS=5 from by decide]at k2;have k3:=fun v B w h=>y6K v vS 65 B w h y9U (by decide) (by decide) (by decide)
 rw[show revM vS 65=(0,true) from by decide]at k3;have k4:=fun v B w h=>y6K v vS 66 B w h y9U (by decide) (by decide) (by decide)
 rw[show revM vS 66=(0,false) from by decide]at k4;have kt:=fun w hT=>new_t w hT
 have ku:=fun w hT=>new_u w hT
 have ko:=fun va vb B1 B2 w h1 h2=>over_v va vb B1 B2 w h1 h2
 have kf:=fun v B w h=>yFl v B w h
 have KS:=z7 kS;have KL:=z7 kL;have KB:=z7 kB;have K2:=z7 k2;have K3:=z7 k3;have K4:=z7 k4;have KT:=z7 kt;have KU:=z7 ku;have KO:=z7 ko;have KF:=z7 kf;clear kS kL kB k2 k3 k4 kt ku ko kf
 go_enter func298,ntmps298
 go_wp2_with (first|(go_at_call 273;refine(KS.out _ _ _ _).mono ?_;rintro e w1 ⟨rfl,Hi⟩)|(go_at_call 331;refine(KL.out _ _ _).mono ?_;rintro e w2 ⟨rfl,Hh⟩))
 have Hj:=(hT.bel Hi).bel Hh;have Hk:=bt Hi Hh;refine(KT.out w2 Hj).mono ?_;rintro e w3 ⟨a1,c1,rfl,Hn,Hg⟩;have Ht:=bt Hk Hg;have Hp:=Hj.bel Hg;clear Hi Hh Hg Hk Hj
 go_wp2_with (go_at_call 273;refine(KS.out _ _ _ _).mono ?_;rintro e w4 ⟨rfl,Hc⟩)
 have x1:=kc Hc (show((w3.alloc (.cells #[.slice a1 2 c1] 228)).alloc (.cells #[.int .i64 0,.int .i64 0] 40)).cell? ⟨w3.heap.size,0,none⟩=some (.slice a1 2 c1) from by go_simp);have x2:=kc Hc (show((w3.alloc (.cells #[.slice a1 2 c1] 228)).alloc (.cells #[.int .i64 0,.int .i64 0] 40)).cell? ⟨w3.heap.size+1,0,none⟩=some (.int .i64 0) from by go_simp);have x3:=kc Hc (show((w3.alloc (.cells #[.slice a1 2 c1] 228)).alloc (.cells #[.int .i64 0,.int .i64 0] 40)).cell? ⟨w3.heap.size+1,1,none⟩=some (.int .i64 0) from by go_simp);have Ha:Below w3.heap.size w3 w4:=bt (bal (bal (z8) _) _) Hc;have Hl:=Hn.bel Ha;have Hs:=bt Ht Ha;have Hw:=Hp.bel Ha;clear Hc Ha Hn Hp;refine(KU.out w4 Hw).mono ?_;rintro e w5 ⟨a2,c2,rfl,Hm,Hb⟩;have y1:=kc Hb x1;have y2:=kc Hb x2;have y3:=kc Hb x3;have Hf:=Hl.bel Hb;have Hr:=bt Hs Hb;have Hz:=zp y2;have Hv:w3.heap.size<w5.heap.size:=by omega
 clear x1 x2 x3 Hb Hl
 go_wp2_with fail
 have Hd:Below w5.heap.size w5 ((w5.alloc (.cells #[.slice a2 1 c2] 228)).alloc (.cells #[.int .i64 0,.int .i64 0] 40)):=bal (bal (z8) _) _;have z2:((w5.alloc (.cells #[.slice a2 1 c2] 228)).alloc (.cells #[.int .i64 0,.int .i64 0] 40)).cell? ⟨w5.heap.size+1,0,none⟩=some (.int .i64 0):=by go_simp
 have z3:((w5.alloc (.cells #[.slice a2 1 c2] 228)).alloc (.cells #[.int .i64 0,.int .i64 0] 40)).cell? ⟨w5.heap.size+1,1,none⟩=some (.int .i64 0):=by go_simp
 refine(KO.out _ _ _ _ _ (Hm.bel Hd) (Hf.bel Hd)).mono ?_;rintro e w6 ⟨a3,c3,rfl,H9,He⟩;have H7:=bt Hd He;have r1:=kc H7 y1;have r2:=kc H7 y2;have r3:=kc H7 y3;have r4:=kc He z2;have r5:=kc He z3;have Hy:=zp r4;have Hu:w3.heap.size+1<w6.heap.size:=by omega
 have Ho:w3.heap.size<w6.heap.size:=by omega
 have H8:=Hf.bel H7;have Hq:=bt Hr H7;clear y1 y2 y3 z2 z3 Hd He H7 Hf Hm;have H5:Below w6.heap.size w6 (w6.alloc (.cells #[.slice a3 4 c3] 228)):=bal (z8) _;have r1:=kc H5 r1;have r2:=kc H5 r2;have r3:=kc H5 r3;have r4:=kc H5 r4;have r5:=kc H5 r5;have r6:(w6.alloc (.cells #[.slice a3 4 c3] 228)).cell? ⟨w6.heap.size,0,none⟩=some (.slice a3 4 c3):=by rw[World.cell?_alloc_new];rfl
 have H9:=H9.bel H5;have H8:=H8.bel H5;have H6:=bt Hq H5;clear H5
 go_wp2_with fail
 generalize w6.alloc (.cells #[.slice a3 4 c3] 228)=W6 at *;generalize w6.heap.size=p6 at *
 go_wp2_with (first
  | (go_at_call 342;with_reducible refine(K3.out _ _ _ H9).mono ?_;rintro e wq ⟨rfl,H5⟩;have H9:=H9.bel H5;have H8:=H8.bel H5;have H6:=bt H6 H5;have r1:=kc H5 r1;have r2:=kc H5 r2;have r3:=kc H5 r3;have r4:=kc H5 r4;have r5:=kc H5 r5;have r6:=kc H5 r6)
  | (go_at_call 342;with_reducible refine(K4.out _ _ _ H9).mono ?_;rintro e wq ⟨rfl,H5⟩;have H9:=H9.bel H5;have H8:=H8.bel H5;have H6:=bt H6 H5;have r1:=kc H5 r1;have r2:=kc H5 r2;have r3:=kc H5 r3;have r4:=kc H5 r4;have r5:=kc H5 r5;have r6:=kc H5 r6)
  | (go_at_call 343;with_reducible refine(KF.out _ _ _ H9).mono ?_;rintro e wq ⟨rfl,H5⟩;have H9:=H9.bel H5;have H8:=H8.bel H5;have H6:=bt H6 H5;have r1:=kc H5 r1;have r2:=kc H5 r2;have r3:=kc H5 r3;have r4:=kc H5 r4;have r5:=kc H5 r5;have r6:=kc H5 r6)
  | (go_at_call 11;with_reducible refine(KB.out _).mono ?_;rintro e wq ⟨rfl,H5⟩;have H8:=H8.bel H5;have H6:=bt H6 H5;have r1:=kc H5 r1;have r2:=kc H5 r2;have r3:=kc H5 r3;have r4:=kc H5 r4;have r5:=kc H5 r5;have r6:=kc H5 r6)
  | (go_at_call 334;with_reducible refine(K2.out _ _ _ H8).mono ?_;rintro e wq ⟨rfl,H5⟩;have H6:=bt H6 H5))
 go_ret
 exact⟨rfl,H6⟩
def sgnF(l:List UInt8):Nat->Nat->List UInt8
 | _,0=>[]
 | k,n+1=>encR (hexAt l k 4)++sgnF l (k+1) n
def sgnM(l:List UInt8):List UInt8:=sgnF l 0 (l.length/5)
theorem yGD(l:List UInt8)(b:UInt8)(r:List UInt8)(h:l=b::r)(hb:b.toNat<128):dec l=(b.toNat,1):=by
 subst h;unfold dec Lib.decodeN;simp[hb]
theorem yJo(b:UInt8)(h:0<=hexv b):b.toNat<128:=by
 have:∀b:Fin 256,0<=hexv (UInt8.ofNat b.val)->b.val<128:=by decide +kernel
 have h2:=this ⟨b.toNat,b.toNat_lt⟩ (by simpa using h);exact h2
theorem yAH(c:UInt8)(w:World)(h:c.toNat<128):
 Calls prog 264 #[.string ⟨#[48,49,50,51,52,53,54,55,56,57,65,66,67,68,69,70]⟩,.int .i32 (c.toNat:Int)] w fun e w'=>e=.returned (.int .i64 (hexv c))/\w=w':=by
 refine(Tryz.strings_IndexRune_ascii _ _ w (by omega) (by omega)).mono fun e w' h=>?_
 refine⟨?_,h.2.symm⟩;rw[h.1];unfold hexv;simp
theorem yE5(s:ByteArray)(w:World)(hs:s.size<=100000)(hH:y1i (bl s)):
 Calls prog 332 #[.string s] w fun e w'=>e=.returned (.string ⟨(sgnM (bl s)).toArray⟩)/\Below w.heap.size w w':=by
 obtain⟨R,hR⟩:∃R,R=sgnM (bl s):=⟨_,rfl⟩;rw[<-hR];have HL:Hid ((bl s).length=s.size):=zJ s;obtain⟨B,hB⟩:∃B,B=w.heap.size:=⟨_,rfl⟩;rw[<-hB];have kC:Below B w w:=by rw[hB];exact z8
 have Hf:B<=w.heap.size:=by omega
 have HR:=z7 hR;have HH:=z7 hH;have HB:=z7 hB;clear hR hH hB
 go_enter func332,ntmps332
 go_wp2_with fail
 go_loopw [0,3] (fun y v wr=>∃(k n:Nat) (x:ByteArray) (acc:List UInt8),y=.string x/\Hid (bl x=(bl s).drop (k*5))/\x.size+k*5=s.size/\Hid (n=x.size/5)/\acc.length<=4*k/\Own wr B v acc/\Hid (R=acc++sgnF (bl s) k n)/\Below B w wr) (fun y _ _=>match y with | .string x=>x.size|_=>0)
 case atStart=>exact⟨0,s.size/5,s,[],rfl,by show bl s=_;simp,by omega,rfl,by simp,Own.nil _ _,by show R=_;rw[HR.out];unfold sgnM;rw[HL.out];rfl,kC⟩
 case round=>
  obtain⟨wo,rfl⟩:∃wo:World,wo=wr:=⟨_,rfl⟩;obtain⟨k,n,x,acc,rfl,hx,kM,hn,kT,H8,Hm,H5⟩:=hrel;by_cases kO:5<=x.size
  . obtain⟨n,rfl⟩:∃m,n=m+1:=⟨n-1,by have:=hn.out;omega⟩
    have e1:=Hm.out;rw[sgnF]at e1;have hy:bl (x.extract 0 4)=((bl s).drop (k*5)).take 4:=by
     unfold bl at *;rw[Lib.extract_data,hx.out];simp
    have Hh:(x.extract 0 4).size=4:=by
     rw[<-zJ,hy,List.length_take,List.length_drop,HL.out];omega
    obtain⟨y,Hg⟩:∃y,y=x.extract 0 4:=⟨_,rfl⟩;rw[<-Hg]at hy Hh;have kQ:decide ((5:Int)<=(x.size:Int))=true:=by simp;omega
    have E1:=z7 e1;have HY:=z7 hy;have kF:=z7 Hg;have Ho:=z7 Hh;clear e1 hy Hg Hh;clear Hm
    go_wp2_with fail
    rw[<-kF.out];have Hn:=ItS.made wo y;have He:Below wo.heap.size wo (wo.iter y 0):=(z8).alloc (zA) _;generalize wo.iter y 0=W0 at *;obtain⟨r,hr⟩:∃r,r=wo.heap.size:=⟨_,rfl⟩;rw[<-hr]at Hn ⊢;have kD:B<=r:=by rw[hr];exact zE Hf H5.size
    have kI:=z7 hr;clear hr
    go_loopw [4] (fun p wz=>∃j:Nat,j<=4/\p=.int .i32 (hexAt (bl s) k j)/\ItS wz r y j/\wo.heap.size<=wz.heap.size/\Hid (∀q,q<wo.heap.size->wz.heap[q]?=wo.heap[q]?)/\Below B w wz) (fun _ wz=>4-wz.iterPos r)
    case atStart=>exact⟨0,by omega,rfl,Hn,He.size,fun q hq=>He.block q hq,H5.trans (He.mono (zE Hf H5.size))⟩
    case round=>
     obtain⟨j,hj,rfl,hI,Hp,H7,Hl⟩:=hrel;have Hb:=hI.pos;have HP:=z7 Hb;clear Hb;clear Hn He;by_cases Hd:j<4
     . obtain⟨h0,h1⟩:=y4c (bl s) k j HH.out (by rw[HL.out];omega) hj
       have h2:(16:Int)^j<=4096:=by
        match j,Hd with
        | 0,_=>decide
        | 1,_=>decide
        | 2,_=>decide
        | 3,_=>decide
       have h3:hexAt (bl s) k j<4096:=by omega
       obtain⟨d0,d1⟩:=HH.out k j (by rw[HL.out];omega) Hd;have Hq:hexAt (bl s) k (j+1)=hexAt (bl s) k j*16+hexv ((bl s).getD (k*5+j) 0):=rfl;have Hi:(bl y).drop j=(bl s).getD (k*5+j) 0::(bl y).drop (j+1):=by
        have hl:j<(bl y).length:=by rw[zJ,Ho.out];exact Hd
        rw[drop_at _ j hl]
        congr 1
        have H6:k*5+j<(bl s).length:=by rw[HL.out];omega
        have:(bl y)[j]?=(bl s)[k*5+j]?:=by rw[HY.out,List.getElem?_take,if_pos Hd,List.getElem?_drop]
        rw[List.getElem?_eq_getElem hl,List.getElem?_eq_getElem H6]at this;rw[List.getD_eq_getElem?_getD,List.getElem?_eq_getElem H6];exact zF this
       generalize (bl s).getD (k*5+j) 0=c at *;have hc:=yJo c d0;have Hk:Hid (dec ((bl y).drop j)=(c.toNat,1)):=yGD _ c _ Hi hc;have c1:=fun w=>yAH c w hc
       generalize hexAt (bl s) k j=p at *;generalize hexv c=d at *;have e2:bits .or .i32 (p*16) d=p*16+d:=yAG _ _ (by omega) (by omega) (by omega) (by omega) (by omega);have HQ:j<y.size:=by rw[Ho.out];exact Hd
       have C1:=z7 c1;have HS:=z7 Hq;have kV:=z7 Hi;clear c1 Hq Hi;clear h1 h2
       go_wp2_with (first
        | (at_next;refine zu rfl _ rfl _ r y j rfl hI HQ c.toNat 1 Hk ?_;intro w3 Hv Hs Hu)
        | (go_at_call 264;with_reducible refine(C1.out _).mono ?_;rintro e w' ⟨rfl,rfl⟩))
       have Hr:=Hv.pos;have kz:Below B w w3:=Hl.grown Hu (zE Hf Hl.size) (by intro q hq;cases hq;exact kD);have Ht:∀q,q<wo.heap.size->w3.heap[q]?=wo.heap[q]?:=fun q hq=>(Hs q (by rw[kI.out];exact Nat.ne_of_lt hq)).trans (H7.out q hq)
       have kJ:=z7 Hr;have kK:=z7 Ht;clear Hr Ht;clear Hs;go_roundw
       case rel=>exact⟨j+1,by omega,by rw[HS.out],Hv,zE Hp Hu.size,kK.out,kz⟩
       case measure=>rw[HP.out,kJ.out];omega
     . have k9:j=4:=by omega
       subst k9;have Hz:y.size<=4:=by rw[Ho.out];exact zA
       obtain⟨h0,h1⟩:=y4c (bl s) k 4 HH.out (by rw[HL.out];omega) (zA);have Hw:Own wr B u3 acc:=za H8 fun q hq=>H7.out q (zf H8 q hq).2
       have kA:B<=wr.heap.size:=zE (zE Hf H5.size) Hp;generalize hexAt (bl s) k 4=p at *;have kU:p<65536:=h1;have kP:=y1e p;clear h1
       go_wp2_with (first
        | (at_next;refine y10 rfl _ rfl _ r y 4 rfl hI Hz ?_)
        | (go_at_call 205;refine(y0V B _ acc p _ (by omega) (by omega) Hw (by omega) kA).mono ?_;rintro e w5 ⟨v',rfl,Hc,ky⟩))
       have Hj:bl (x.extract 5 x.size)=(bl s).drop ((k+1)*5):=by
        rw[show bl (x.extract 5 x.size)=(bl x).drop 5 from y0E x 5,hx.out,List.drop_drop]
        congr 1;omega
       have Ha:(x.extract 5 x.size).size=x.size-5:=by rw[<-zJ,Hj,List.length_drop,HL.out];omega
       have e2:R=(acc++encR p)++sgnF (bl s) (k+1) n:=by rw[E1.out,List.append_assoc]
       have kx:=Hl.trans ky;have kH:=z7 Hj;have E2:=z7 e2;have H9:=z7 Ha;clear Hj e2 Ha;go_roundw
       case rel=>exact⟨k+1,n,x.extract 5 x.size,acc++encR p,rfl,kH.out,by have:=H9.out;omega,by show n=_;have:=hn.out;rw[H9.out];omega,by rw[zH];omega,Hc,E2.out,kx⟩
       case measure=>have:=H9.out;simp only;omega
  . have Hy:n=0:=by have:=hn.out;omega
    subst Hy;have e1:=Hm.out;rw[sgnF,List.append_nil]at e1;have kR:=y16 H8;have E1:=z7 e1;clear e1
    go_wp2_with fail
    go_ret
    exact⟨by rw[E1.out];rfl,H5⟩
def yJ2(o:Oper):ByteArray:=match o.op with
 | .call c=>match c.args.toList with
  | Operand.const (Value.string s)::_=>s
  | _=>ByteArray.empty
 | _=>ByteArray.empty
def yGO(f:Func)(region op:Nat):ByteArray:=match f.body with
 | some c=>match y06 c region with
  | some ops=>match ops[op]? with|some o=>yJ2 o|none=>ByteArray.empty
  | none=>ByteArray.empty
 | none=>ByteArray.empty
def koB:ByteArray:=yGO Tryz.f274 1 1
def koT:ByteArray:=⟨(sgnM (bl koB)).toArray⟩
theorem yIc:koB.size=640/\hexLin (bl koB) 0=true:=by decide +kernel
theorem y7c:scanL (bl koT)=(128,none):=by decide +kernel
theorem yHu:koT.size<=1000:=by decide +kernel
def b0B:ByteArray:=yGO Tryz.f276 1 2
def b0T:ByteArray:=⟨(sgnM (bl b0B)).toArray⟩
theorem yIm:b0B.size=240/\hexLin (bl b0B) 0=true:=by decide +kernel
theorem y7z:scanL (bl b0T)=(48,none):=by decide +kernel
theorem yIN:b0T.size<=1000:=by decide +kernel
def f0B:ByteArray:=yGO Tryz.f276 1 5
def f0T:ByteArray:=⟨(sgnM (bl f0B)).toArray⟩
theorem yIg:f0B.size=80/\hexLin (bl f0B) 0=true:=by decide +kernel
theorem y7l:scanL (bl f0T)=(16,none):=by decide +kernel
theorem yIA:f0T.size<=1000:=by decide +kernel
theorem yE6(s T:ByteArray)(S:ByteArray)(w:World)(hs:s=S)(hS:S.size<=1000/\hexLin (bl S) 0=true)(hT:T=⟨(sgnM (bl S)).toArray⟩):
 Calls prog 332 #[.string s] w fun e w'=>e=.returned (.string T)/\Below w.heap.size w w':=by
 subst hs hT;exact yE5 s w (by omega) (y5W _ hS.2)
end Go.Proofs.YtndlekaahjccdaaGreatDoor
set_option maxHeartbeats 4000000
namespace Go.Proofs.YtndlekaahjccdaaGreatDoor
open Go.RowKit Go.Proofs.Tryz
theorem Tab.set{w:World}{B:Nat}{v:Value}{S:List RP}(h:Tab w B v S){g j:Nat}{cur:Array Value}{e:TypeId}(hg:g<B)(hb:w.heap[g]?=some (.cells cur e (0,0)))(he:e≠21)(u:Value):Tab (w.setCell ⟨g,j,none⟩ u) B v S:=by
 obtain⟨X,h1,h2,h3⟩:=h;refine⟨X,za h1 fun q hq=>Below.heap_setCell _ _ _ _ ?_,h2,fun r hr=>(h3 r hr).blk fun q cur' hq=>Below.heap_setCell _ _ _ _ ?_⟩
 . have:=(zf h1 q hq).1
   simp only;omega
 . simp only
   intro e1;subst e1;rw[hb]at hq;simp at hq;exact he hq.2
theorem Tab.mono{w:World}{B B':Nat}{v:Value}{S:List RP}(h:Tab w B v S)(hB:B'<=B):Tab w B' v S:=by
 obtain⟨X,h1,h2,h3⟩:=h;exact⟨X,zd h1 hB,h2,h3⟩
theorem yJb(v:Value)(PS:List PC)(S:List RP)(w:World)(hT:TW w)(H6:Row w v PS.length (y5C PS))(H8:PS ≠ [])(H7:PS.length<=1000)(hR:∀p∈PS,p.Right/\(p.tx.size≠0->p.tq=0/\p.ct=0))
 (hS:PS.map PC.row=S) (H5:S.Pairwise fun p q=>p.fr+p.ct<=q.fr):
 Calls prog 329 #[v] w fun e w'=>
  ∃a c,e=.returned (.tuple #[.agg #[.slice a S.length c],.agg #[.int .i64 0,.int .i64 0]])/\Tab w' w.heap.size (.slice a S.length c) S/\Below w.heap.size w w':=by
 have H9:S.Pairwise fun a b=>a.fr<b.fr:=by
  refine List.Pairwise.imp_of_mem ?_ H5;intro a b ha _ h;rw[<-hS]at ha;obtain⟨p,hp,rfl⟩:=List.mem_map.1 ha;have:=(yEM p (hR p hp).1).2.1;omega
 have Ha:PS.Pairwise fun p q=>∀c,¬(p.row.has c/\q.row.has c):=by
  rw[<-hS,List.pairwise_map]at H5;exact H5.imp fun h c ⟨h1,h2⟩=>by unfold RP.has at h1 h2;omega
 refine(yEz _ PS _ hT H6 H8 H7 hR Ha).mono fun e w' ⟨v,X,he,h1,h2,h3,h4,h5⟩=>?_
 have hX:X.map RR.pl=S:=y2l _ _ (by rw[<-hS];exact h2) (by rw[List.pairwise_map];exact h3) H9;have ht:Tab w' w.heap.size v S:=⟨X,h1,hX,h4⟩;obtain⟨a,c,rfl⟩:=ht.len;exact⟨a,c,he,ht,h5⟩
theorem yAt(cs:Array Value)(PS:List PC)(S:List RP)(n:Nat)(w:World)(hT:TW w)(hn:n=PS.length)(Hd:cs.toList=y5C PS)(Hc:PS ≠ [])(H8:PS.length<=1000)(hR:∀p∈PS,p.Right/\(p.tx.size≠0->p.tq=0/\p.ct=0))
 (hS:PS.map PC.row=S) (H7:S.Pairwise fun p q=>p.fr+p.ct<=q.fr):
 Calls prog 272 #[.slice (some ⟨w.heap.size,0,none⟩) n n] (w.alloc (.cells cs 289)) fun e w'=>
  ∃a c,e=.returned (.agg #[.slice a S.length c])/\Tab w' w.heap.size (.slice a S.length c) S/\Below w.heap.size w w':=by
 have H5:=yEL w cs 289 n;rw[Hd]at H5;obtain⟨W,hW⟩:∃W,W=w.alloc (.cells cs 289):=⟨_,rfl⟩;rw[<-hW]at H5 ⊢;have Ha:Below w.heap.size w W:=by rw[hW];exact bal (z8) _
 have Hh:TW W:=hT.bel Ha;subst hn;have k1:=fun X=>yJb _ PS S (W.alloc X) (Hh.alloc X) (H5.keep ((z8).alloc (zA) X)) Hc H8 hR hS H7
 have l0:=Live.fresh W #[.slice none 0 0] 228 0 _ rfl;obtain⟨q,hq⟩:∃q,q=S.length:=⟨_,rfl⟩;have H6:∀(e:Ending) (w':World),(∃a c,e=.returned (.agg #[.slice a q c])/\Tab w' w.heap.size (.slice a q c) S/\Below w.heap.size w w')->(∃a c,e=.returned (.agg #[.slice a S.length c])/\Tab w' w.heap.size (.slice a S.length c) S/\Below w.heap.size w w'):=by rw[hq];exact fun _ _ h=>h
 rw[<-hq]at k1;generalize PS.length=n at *;refine Calls.mono ?_ H6;have K1:=z7 k1;have Hi:=z7 Ha;clear k1 Ha;clear hW H5 hR hS H7 Hd H6 hq Hc
 go_enter func272,ntmps272
 go_wp2_with fail
 refine(K1.out _).mono ?_;rintro e w1 ⟨a,c,rfl,ht,Hb⟩;obtain⟨a1,a2⟩:=l0.keep Hb;have Hf:W.heap.size<w1.heap.size:=zp a1
 go_wp2_with fail
 refine bodyPost_ret (v:=.agg #[.slice a q c]) (by simp[results,results272,go_sem,a1,a2,Hf]) rfl ?_;have Hg:Below W.heap.size W w1:=bt (bal (z8) _) Hb;have hw:=Hi.out;have H9:w1.heap[W.heap.size]?=some (.cells #[.slice none 0 0] 228 (0,0)):=(Hb.block _ (by simp)).trans (heap_alloc_new _ _);have He:=ht.set (j:=0) (by simp) H9 (by decide) (.slice a q c);refine⟨a,c,rfl,?_,bal (bal ((hw.trans (Hg.mono hw.size)).setCell hw.size _) _) _⟩;exact(He.bel (bal (bal (z8) _) _)).mono (by simp;have:=hw.size;omega)
theorem y8W(w:World):Calls prog 330 #[] w fun e w'=>e=.returned (.agg #[.int .i64 0,.int .i32 0,.int .i64 128,.string ByteArray.empty])/\Below w.heap.size w w':=by
 have kS:=fun a b c w=>y50 a b c w
 simp only[y0L]at kS;have l0:=Live.fresh w #[.int .i64 0,.int .i32 0,.int .i64 0,.string ByteArray.empty] 289 0 _ rfl;have l1:=Live.fresh w #[.int .i64 0,.int .i32 0,.int .i64 0,.string ByteArray.empty] 289 1 _ rfl;have l2:=Live.fresh w #[.int .i64 0,.int .i32 0,.int .i64 0,.string ByteArray.empty] 289 2 _ rfl;have l3:=Live.fresh w #[.int .i64 0,.int .i32 0,.int .i64 0,.string ByteArray.empty] 289 3 _ rfl;have KS:=z7 kS;clear kS
 go_enter func330,ntmps330
 go_wp2_with (go_at_call 273;refine(KS.out _ _ _ _).mono ?_;rintro e w1 ⟨rfl,H5⟩;obtain⟨a0,b0⟩:=l0.keep H5;obtain⟨a1,b1⟩:=l1.keep H5;obtain⟨a2,b2⟩:=l2.keep H5;obtain⟨a3,b3⟩:=l3.keep H5)
 refine bodyPost_ret (v:=.agg #[.int .i64 0,.int .i32 0,.int .i64 128,.string ByteArray.empty]) (by simp[results,results330,go_sem,a0,a1,a2,a3,b0,b1,b2,b3]) rfl ⟨rfl,?_⟩;exact((((bt (bal (z8) _) H5).setCell (zA) _).setCell (zA) _).setCell (zA) _).setCell (zA) _
def koP:List Int:=pts (bl koT)
theorem yAD:koP.length=128:=(y1D _ _ y7c).symm
def koS:List RP:=[⟨0,128,0,none⟩,⟨128,128,0,some koP⟩]
theorem y7F(a b c:Int):(PC.mk a b c ByteArray.empty).row=⟨a,c,b,none⟩:=rfl
theorem y9l(a:Int)(t:ByteArray)(l:List Int)(n:Int)(h:t.size≠0)(hl:pts (bl t)=l)(hn:(l.length:Int)=n):(PC.mk a 0 0 t).row=⟨a,n,0,some l⟩:=by
 unfold PC.row;rw[if_neg h,hl,hn]
theorem y55(a:Int)(t:ByteArray)(n:Nat)(h:t.size≠0)(hs:t.size<=1000)(hn:scanL (bl t)=(n,none))(hi:insideB a n=true):(PC.mk a 0 0 t).Right:=by
 unfold PC.Right;rw[if_neg h];exact⟨by simp only;omega,n,hn,hi⟩
theorem y9c(t:ByteArray)(n:Nat)(h:scanL (bl t)=(n,none))(hn:n≠0):t.size≠0:=by
 intro e;have:bl t = []:=List.eq_nil_of_length_eq_zero (by rw[zJ];exact e);rw[this]at h;simp[scanL,scanF]at h;exact hn h.symm
def TabPost(S:List RP)(n:Nat)(w:World)(e:Ending)(w':World):Prop:=∃a c,e=.returned (.agg #[.slice a n c])/\Tab w' w.heap.size (.slice a n c) S/\Below w.heap.size w w'
theorem yHt(w:World)(hT:TW w):Calls prog 272 #[.slice (some ⟨w.heap.size,0,none⟩) 2 2] (w.alloc (.cells #[.int .i64 0,.int .i32 0,.int .i64 128,.string ByteArray.empty,.int .i64 128,.int .i32 0,.int .i64 0,.string koT] 289)) (TabPost koS 2 w):=by
 have H5:=y9c koT 128 y7c (by decide);refine yAt _ [⟨0,0,128,ByteArray.empty⟩,⟨128,0,0,koT⟩] koS 2 w hT rfl rfl (by simp) (by simp) ?_ ?_ ?_
 . intro p hp
   simp only[List.mem_cons,List.not_mem_nil,or_false]at hp;rcases hp with rfl|rfl
   . exact⟨⟨by decide,by decide,by decide,by decide⟩,fun h=>absurd rfl h⟩
   . have h1:insideB 128 ((128:Nat):Int)=true:=by decide
     have h2:=y55 128 koT 128 H5 yHu y7c h1;exact⟨h2,fun _=>And.intro (show(0:Int)=0 from rfl) (show(0:Int)=0 from rfl)⟩
 . have e1:=y9l 128 koT koP 128 H5 rfl (by rw[yAD];rfl)
   have e2:=y7F 0 0 128;simp only[List.map_cons,List.map_nil,e1,e2,koS]
 . simp[koS]
theorem y52(w:World)(hT:TW w):Calls prog 274 #[] w (TabPost koS 2 w):=by
 have kp:=fun w=>y8W w
 have kL:=fun a w=>y7Z a koT w
 simp only[y0L]at kL;have kk:=fun w hT=>yHt w hT
 have l0:=Live.fresh w #[.slice none 0 0] 228 0 _ rfl;have H9:=heap_alloc_new w (.cells #[.slice none 0 0] 228);have Hb:=hT.alloc (.cells #[.slice none 0 0] 228);have Ha:Below w.heap.size w (w.alloc (.cells #[.slice none 0 0] 228)):=bal (z8) _;have KP:=z7 kp;have KL:=z7 kL;have KK:=z7 kk;have Hi:=z7 H9;have Hh:=z7 Hb;have Hj:=z7 Ha;clear kp kL kk H9 Hb Ha;clear hT
 go_enter func274,ntmps274
 go_wp2_with (first
  | (go_at_call 330;refine(KP.out _).mono ?_;rintro e w1 ⟨rfl,Hf⟩)
  | (go_at_call 332;refine(yE6 _ koT koB _ (by kernel_rfl) ⟨by rw[yIc.1];decide,yIc.2⟩ rfl).mono ?_;rintro e w2 ⟨rfl,He⟩)
  | (go_at_call 331;refine(KL.out _ _).mono ?_;rintro e w3 ⟨rfl,Hd⟩))
 have H6:=bt (bt Hf He) Hd;have Hg:=Hh.out.bel H6;refine(KK.out w3 Hg).mono ?_;rintro e w4 ⟨a,c,rfl,ht,Hc⟩;have H5:=bt H6 Hc;obtain⟨a1,a2⟩:=l0.keep H5;have hb:=bt Hj.out H5;have H7:=(H5.block _ (by simp)).trans Hi.out;have H8:w.heap.size<w3.heap.size:=by have:=H6.size;simp at this;omega
 have Hk:=z7 H7;clear H7
 go_wp2_with fail
 refine bodyPost_ret (v:=.agg #[.slice a 2 c]) (by simp[results,results274,go_sem,a1,a2]) rfl ?_;exact⟨a,c,rfl,(ht.set H8 Hk.out (by decide) _).mono (by omega),hb.setCell (zA) _⟩
def insR(r:RP):List RP->List RP
 | []=>[r]
 | q::l=>if r.fr<=q.fr then r::q::l else q::insR r l
def yH1:List RP->List RP
 | []=>[]
 | r::l=>insR r (yH1 l)
theorem yFT(r:RP)(l:List RP):(insR r l).Perm (r::l):=by
 induction l with
 | nil=>exact List.Perm.refl _
 | cons q l ih=>
  simp only[insR];split
  . exact List.Perm.refl _
  . exact(List.Perm.cons q ih).trans (List.Perm.swap r q l)
theorem yCJ(l:List RP):(yH1 l).Perm l:=by
 induction l with
 | nil=>exact List.Perm.refl _
 | cons r l ih=>exact(yFT r _).trans (List.Perm.cons r ih)
def uoS:List RP:=[⟨164,1,1108,none⟩,⟨166,2,1110,none⟩,⟨173,1,1169,none⟩,⟨180,1,1028,none⟩,⟨182,2,1030,none⟩,⟨189,1,1168,none⟩]
def cutL(l:List Int)(a n:Nat):Option (List Int):=some ((l.drop a).take n)
def ukL(l:List Int):List RP:=[⟨0,128,0,none⟩,⟨128,36,0,cutL l 0 36⟩,⟨164,1,1108,none⟩,⟨165,1,0,cutL l 37 1⟩,⟨166,2,1110,none⟩,⟨168,5,0,cutL l 40 5⟩,⟨173,1,1169,none⟩,⟨174,6,0,cutL l 46 6⟩,
 ⟨180,1,1028,none⟩,⟨181,1,0,cutL l 53 1⟩,⟨182,2,1030,none⟩,⟨184,5,0,cutL l 56 5⟩,⟨189,1,1168,none⟩,⟨190,66,0,cutL l 62 66⟩]
theorem yIu(l:List Int):yH1 (y3Y uoS [⟨0,128,0,none⟩,⟨128,128,0,some l⟩] 0 uoS)=ukL l:=by kernel_rfl
def ukS:List RP:=ukL koP
theorem y0x(a b t:Int)(h:0<=a/\1<=b/\a+b<=1048576/\0<=t/\t+b<=2097152):(⟨a,b,t,none⟩:RP).Good:=⟨h.1,h.2.1,h.2.2.1,h.2.2.2.1,h.2.2.2.2,fun l hl=>by cases hl⟩
theorem y3I(a b:Int)(l:List Int)(h:0<=a/\1<=b/\a+b<=1048576)(hl:(l.length:Int)=b):(⟨a,b,0,some l⟩:RP).Good:=⟨h.1,h.2.1,h.2.2,Int.le_refl _,by simp only;omega,fun l' H5=>by cases H5;exact hl⟩
theorem yJz(l:List Int)(a n:Nat)(hl:l.length=128)(h:a+n<=128):((l.drop a).take n).length=n:=by rw[List.length_take,List.length_drop,hl];omega
theorem y7d:∀r∈koS,r.Good:=by
 intro r hr;simp only[koS,List.mem_cons,List.not_mem_nil,or_false]at hr;rcases hr with rfl|rfl
 . exact y0x _ _ _ (by decide)
 . exact y3I _ _ _ (by decide) (by rw[yAD];rfl)
theorem yGl:∀r∈uoS,r.Good:=by
 intro r hr;simp only[uoS,List.mem_cons,List.not_mem_nil,or_false]at hr;rcases hr with rfl|rfl|rfl|rfl|rfl|rfl
 all_goals exact y0x _ _ _ (by decide)
theorem yGm:∀r∈ukS,r.Good:=by
 intro r hr;simp only[ukS,ukL,cutL,List.mem_cons,List.not_mem_nil,or_false]at hr;rcases hr with rfl|rfl|rfl|rfl|rfl|rfl|rfl|rfl|rfl|rfl|rfl|rfl|rfl|rfl
 all_goals first|exact y0x _ _ _ (by decide)|exact y3I _ _ _ (by decide) (by rw[yJz _ _ _ yAD (by decide)];rfl)
theorem yGk(w:World)(hT:TW w):Calls prog 272 #[.slice (some ⟨w.heap.size,0,none⟩) 6 6] (w.alloc (.cells #[.int .i64 164,.int .i32 1108,.int .i64 1,.string ByteArray.empty,.int .i64 166,.int .i32 1110,.int .i64 2,.string ByteArray.empty,
 .int .i64 173,.int .i32 1169,.int .i64 1,.string ByteArray.empty,.int .i64 180,.int .i32 1028,.int .i64 1,.string ByteArray.empty,.int .i64 182,.int .i32 1030,.int .i64 2,.string ByteArray.empty,.int .i64 189,.int .i32 1168,.int .i64 1,.string ByteArray.empty] 289)) (TabPost uoS 6 w):=by
 refine yAt _ [⟨164,1108,1,ByteArray.empty⟩,⟨166,1110,2,ByteArray.empty⟩,⟨173,1169,1,ByteArray.empty⟩,⟨180,1028,1,ByteArray.empty⟩,⟨182,1030,2,ByteArray.empty⟩,⟨189,1168,1,ByteArray.empty⟩] uoS 6 w hT rfl rfl (by simp) (by simp) ?_ rfl ?_
 . intro p hp
   simp only[List.mem_cons,List.not_mem_nil,or_false]at hp;rcases hp with rfl|rfl|rfl|rfl|rfl|rfl
   all_goals exact⟨⟨by decide,by decide,by decide,by decide⟩,fun h=>absurd rfl h⟩
 . simp[uoS]
theorem yJP(va vb:Value)(B1 B2:Nat)(w:World)(hA:Tab w B1 va uoS)(hC:Tab w B2 vb koS):Calls prog 333 #[.agg #[va],.agg #[vb]] w (TabPost ukS 14 w):=
 yEg va vb uoS koS ukS _ B1 B2 w hA hC (by simp[uoS]) (by decide) (by simp[koS]) yGl y7d rfl (by have h:=yCJ (y3Y uoS koS 0 uoS);rw[show yH1 (y3Y uoS koS 0 uoS)=ukS from yIu koP]at h;exact h.symm) (by simp[ukS,ukL])
theorem y6r(w:World)(hT:TW w):Calls prog 275 #[] w (TabPost ukS 14 w):=by
 have kS:=fun a b c w=>y50 a b c w
 simp only[y0L]at kS;have kk:=fun w hT=>yGk w hT
 have kr:=fun w hT=>y52 w hT
 have ko:=fun va vb B1 B2 w h1 h2=>yJP va vb B1 B2 w h1 h2
 have l0:=Live.fresh w #[.slice none 0 0] 228 0 _ rfl;have Hf:=heap_alloc_new w (.cells #[.slice none 0 0] 228);have Hi:=hT.alloc (.cells #[.slice none 0 0] 228);have Hg:Below w.heap.size w (w.alloc (.cells #[.slice none 0 0] 228)):=bal (z8) _;have KS:=z7 kS;have KK:=z7 kk;have KR:=z7 kr;have KO:=z7 ko;have Hr:=z7 Hf;have Hj:=z7 Hi;have Hs:=z7 Hg;clear kS kk kr ko Hf Hi Hg;clear hT
 go_enter func275,ntmps275
 go_wp2_with fail
 have H5:=(Below.refl (w.alloc (.cells #[.slice none 0 0] 228)).heap.size (w.alloc (.cells #[.slice none 0 0] 228)))
 go_wp2_with (go_at_call 273;refine(KS.out _ _ _ _).mono ?_;rintro e w1 ⟨rfl,Hp⟩;have H5:=bt H5 Hp)
 refine(KK.out _ (Hj.out.bel H5)).mono ?_;rintro e w2 ⟨a1,c1,rfl,Hd,Hh⟩;have Hb:=bt H5 Hh;clear H5
 go_wp2_with fail
 have Hc:Below w2.heap.size w2 (w2.alloc (.cells #[.slice a1 6 c1] 228)):=bal (z8) _;have t1:(w2.alloc (.cells #[.slice a1 6 c1] 228)).cell? ⟨w2.heap.size,0,none⟩=some (.slice a1 6 c1):=by rw[World.cell?_alloc_new];rfl
 have Hq:TW (w2.alloc (.cells #[.slice a1 6 c1] 228)):=((Hj.out.bel Hb).alloc _);have Hm:=Hd.bel Hc;have He:=bt Hb Hc;generalize w2.alloc (.cells #[.slice a1 6 c1] 228)=W at *;generalize w2.heap.size=p2 at *;clear Hh Hb Hd Hc
 go_region_with (first
  | (go_at_call 274;refine(KR.out _ Hq.drew).mono ?_;rintro e w5 ⟨a5,c5,rfl,Hl,H7⟩;have t5:=kc H7 t1;have H8:=Hm.bel (bt ((z8).drew) H7))
  | (go_at_call 333;refine(KO.out _ _ _ _ _ H8 Hl).mono ?_;rintro e w6 ⟨a6,c6,rfl,Hk,Ho⟩;have Ha:=bt (bt He (bt ((z8).drew) H7)) Ho;obtain⟨b1,b2⟩:=l0.keep Ha))
 all_goals
  have H6:=(Ha.block _ (by simp)).trans Hr.out;have hb:=bt Hs.out Ha;have Hn:w.heap.size<w6.heap.size:=zp b1;have H9:w.heap.size<w5.heap.size:=by
   have h1:=He.size;have h2:=H7.size;simp at h1 h2;omega
  have Ht:=z7 H6;clear H6
  go_wp2_with fail
  refine bodyPost_ret (v:=.agg #[.slice a6 14 c6]) (by simp[results,results275,go_sem,b1,b2]) rfl ?_;exact⟨a6,c6,rfl,(Hk.set H9 Ht.out (by decide) _).mono (by omega),hb.setCell (zA) _⟩
def b0P:List Int:=pts (bl b0T)
def f0P:List Int:=pts (bl f0T)
theorem yGa:b0P.length=48:=(y1D _ _ y7z).symm
theorem yFo:f0P.length=16:=(y1D _ _ y7l).symm
def alS:List RP:=[⟨0,128,0,none⟩,⟨128,48,1040,none⟩,⟨176,48,0,some b0P⟩,⟨224,16,1088,none⟩,⟨240,16,0,some f0P⟩]
theorem yIQ:∀r∈alS,r.Good:=by
 intro r hr;simp only[alS,List.mem_cons,List.not_mem_nil,or_false]at hr;rcases hr with rfl|rfl|rfl|rfl|rfl
 . exact y0x _ _ _ (by decide)
 . exact y0x _ _ _ (by decide)
 . exact y3I _ _ _ (by decide) (by rw[yGa];rfl)
 . exact y0x _ _ _ (by decide)
 . exact y3I _ _ _ (by decide) (by rw[yFo];rfl)
theorem yIP(w:World)(hT:TW w):Calls prog 272 #[.slice (some ⟨w.heap.size,0,none⟩) 5 5] (w.alloc (.cells #[.int .i64 0,.int .i32 0,.int .i64 128,.string ByteArray.empty,.int .i64 128,.int .i32 1040,.int .i64 48,.string ByteArray.empty,
 .int .i64 176,.int .i32 0,.int .i64 0,.string b0T,.int .i64 224,.int .i32 1088,.int .i64 16,.string ByteArray.empty,.int .i64 240,.int .i32 0,.int .i64 0,.string f0T] 289)) (TabPost alS 5 w):=by
 have H6:=y9c b0T 48 y7z (by decide);have H5:=y9c f0T 16 y7l (by decide);refine yAt _ [⟨0,0,128,ByteArray.empty⟩,⟨128,1040,48,ByteArray.empty⟩,⟨176,0,0,b0T⟩,⟨224,1088,16,ByteArray.empty⟩,⟨240,0,0,f0T⟩] alS 5 w hT rfl rfl (by simp) (by simp) ?_ ?_ ?_
 . intro p hp
   simp only[List.mem_cons,List.not_mem_nil,or_false]at hp;rcases hp with rfl|rfl|rfl|rfl|rfl
   . exact⟨⟨by decide,by decide,by decide,by decide⟩,fun h=>absurd rfl h⟩
   . exact⟨⟨by decide,by decide,by decide,by decide⟩,fun h=>absurd rfl h⟩
   . have h1:insideB 176 ((48:Nat):Int)=true:=by decide
     exact⟨y55 176 b0T 48 H6 yIN y7z h1,fun _=>And.intro (show(0:Int)=0 from rfl) (show(0:Int)=0 from rfl)⟩
   . exact⟨⟨by decide,by decide,by decide,by decide⟩,fun h=>absurd rfl h⟩
   . have h1:insideB 240 ((16:Nat):Int)=true:=by decide
     exact⟨y55 240 f0T 16 H5 yIA y7l h1,fun _=>And.intro (show(0:Int)=0 from rfl) (show(0:Int)=0 from rfl)⟩
 . have e1:=y9l 176 b0T b0P 48 H6 rfl (by rw[yGa];rfl)
   have e2:=y9l 240 f0T f0P 16 H5 rfl (by rw[yFo];rfl);have e3:=y7F 0 0 128;have e4:=y7F 128 1040 48;have e5:=y7F 224 1088 16;simp only[List.map_cons,List.map_nil,e1,e2,e3,e4,e5,alS]
 . simp[alS]
theorem y5r(w:World)(hT:TW w):Calls prog 276 #[] w (TabPost alS 5 w):=by
 have kp:=fun w=>y8W w
 have kL:=fun a t w=>y7Z a t w
 have kS:=fun a b c w=>y50 a b c w
 simp only[y0L]at kL kS;have kk:=fun w hT=>yIP w hT
 have l0:=Live.fresh w #[.slice none 0 0] 228 0 _ rfl;have Ha:=heap_alloc_new w (.cells #[.slice none 0 0] 228);have Hc:=hT.alloc (.cells #[.slice none 0 0] 228);have Hb:Below w.heap.size w (w.alloc (.cells #[.slice none 0 0] 228)):=bal (z8) _;have KP:=z7 kp;have KL:=z7 kL;have KK:=z7 kk;have KS:=z7 kS;have Hf:=z7 Ha;have He:=z7 Hc;have Hg:=z7 Hb;clear kp kL kk kS Ha Hc Hb;clear hT
 go_enter func276,ntmps276
 go_wp2_with fail
 have H5:=(Below.refl (w.alloc (.cells #[.slice none 0 0] 228)).heap.size (w.alloc (.cells #[.slice none 0 0] 228)))
 go_wp2_with (first
  | (go_at_call 330;refine(KP.out _).mono ?_;rintro e w1 ⟨rfl,H6⟩;have H5:=bt H5 H6)
  | (go_at_call 273;refine(KS.out _ _ _ _).mono ?_;rintro e w1 ⟨rfl,H6⟩;have H5:=bt H5 H6)
  | (go_at_call 331;refine(KL.out _ _ _).mono ?_;rintro e w1 ⟨rfl,H6⟩;have H5:=bt H5 H6))
 refine(yE6 _ b0T b0B _ (by kernel_rfl) ⟨by rw[yIm.1];decide,yIm.2⟩ rfl).mono ?_;rintro e w1 ⟨rfl,H6⟩;have H5:=bt H5 H6
 go_wp2_with (first
  | (go_at_call 330;refine(KP.out _).mono ?_;rintro e w1 ⟨rfl,H6⟩;have H5:=bt H5 H6)
  | (go_at_call 273;refine(KS.out _ _ _ _).mono ?_;rintro e w1 ⟨rfl,H6⟩;have H5:=bt H5 H6)
  | (go_at_call 331;refine(KL.out _ _ _).mono ?_;rintro e w1 ⟨rfl,H6⟩;have H5:=bt H5 H6))
 refine(yE6 _ f0T f0B _ (by kernel_rfl) ⟨by rw[yIg.1];decide,yIg.2⟩ rfl).mono ?_;rintro e w1 ⟨rfl,H6⟩;have H5:=bt H5 H6
 go_wp2_with (first
  | (go_at_call 330;refine(KP.out _).mono ?_;rintro e w1 ⟨rfl,H6⟩;have H5:=bt H5 H6)
  | (go_at_call 273;refine(KS.out _ _ _ _).mono ?_;rintro e w1 ⟨rfl,H6⟩;have H5:=bt H5 H6)
  | (go_at_call 331;refine(KL.out _ _ _).mono ?_;rintro e w1 ⟨rfl,H6⟩;have H5:=bt H5 H6))
 refine(KK.out w1 (He.out.bel H5)).mono ?_;rintro e w4 ⟨a,c,rfl,ht,Hd⟩;have H7:=bt H5 Hd;obtain⟨a1,a2⟩:=l0.keep H7;have hb:=bt Hg.out H7;have H8:=(H7.block _ (by simp)).trans Hf.out;have H9:w.heap.size<w1.heap.size:=by have:=H5.size;simp at this;omega
 have Hh:=z7 H8;clear H8
 go_wp2_with fail
 refine bodyPost_ret (v:=.agg #[.slice a 5 c]) (by simp[results,results276,go_sem,a1,a2]) rfl ?_;exact⟨a,c,rfl,(ht.set H9 Hh.out (by decide) _).mono (by omega),hb.setCell (zA) _⟩
def laS:List RP:=[⟨0,256,0,none⟩]
theorem yBc:∀r∈laS,r.Good:=by
 intro r hr;simp only[laS,List.mem_cons,List.not_mem_nil,or_false]at hr;subst hr;exact y0x _ _ _ (by decide)
theorem yHs(w:World)(hT:TW w):Calls prog 272 #[.slice (some ⟨w.heap.size,0,none⟩) 1 1] (w.alloc (.cells #[.int .i64 0,.int .i32 0,.int .i64 256,.string ByteArray.empty] 289)) (TabPost laS 1 w):=by
 refine yAt _ [⟨0,0,256,ByteArray.empty⟩] laS 1 w hT rfl rfl (by simp) (by simp) ?_ rfl ?_
 . intro p hp
   simp only[List.mem_cons,List.not_mem_nil,or_false]at hp;subst hp;exact⟨⟨by decide,by decide,by decide,by decide⟩,fun h=>absurd rfl h⟩
 . simp[laS]
def setS(c:Int):List RP:=if c=0 then laS else if c=1 then koS else if c=2 then ukS else alS
def setN(c:Int):Nat:=if c=0 then 1 else if c=1 then 2 else if c=2 then 14 else 5
theorem yE9(c:Int):∀r∈setS c,r.Good:=by
 unfold setS
 repeat' split
 . exact yBc
 . exact y7d
 . exact yGm
 . exact yIQ
def OfPost(c:Int)(w:World)(e:Ending)(w':World):Prop:=∃a cp,e=.returned (.tuple #[.agg #[.slice a (setN c) cp,.int .i64 c],.bool true])/\Tab w' w.heap.size (.slice a (setN c) cp) (setS c)/\Below w.heap.size w w'
theorem yEu(c:Int)(w:World)(hT:TW w)(h0:0<=c)(h1:c<=3):Calls prog 185 #[.int .i64 c] w (OfPost c w):=by
 have kS:=fun a b c w=>y50 a b c w
 simp only[y0L]at kS;have k0:=fun w hT=>yHs w hT
 have k1:=fun w hT=>y52 w hT
 have k2:=fun w hT=>y6r w hT
 have k3:=fun w hT=>y5r w hT
 have l0:=Live.fresh w #[.slice none 0 0,.int .i64 0] 230 0 _ rfl;have l1:=Live.fresh w #[.slice none 0 0,.int .i64 0] 230 1 _ rfl;have Hf:=heap_alloc_new w (.cells #[.slice none 0 0,.int .i64 0] 230);have Hh:=hT.alloc (.cells #[.slice none 0 0,.int .i64 0] 230);have Hg:Below w.heap.size w (w.alloc (.cells #[.slice none 0 0,.int .i64 0] 230)):=bal (z8) _;have He:(w.alloc (.cells #[.slice none 0 0,.int .i64 0] 230)).heap.size=w.heap.size+1:=World.size_alloc _ _;have KS:=z7 kS;have K0:=z7 k0;have K1:=z7 k1;have K2:=z7 k2;have K3:=z7 k3;have Hb:=z7 Hf;have Ha:=z7 Hh;have Hc:=z7 Hg;have H9:=z7 He;clear kS k0 k1 k2 k3 Hf Hh Hg He;clear hT;rcases(show c=0\/c=1\/c=2\/c=3 from by omega)with rfl|rfl|rfl|rfl
 . go_enter func185,ntmps185
   go_wp2_with (go_at_call 273;refine(KS.out _ _ _ _).mono ?_;rintro e w1 ⟨rfl,Hd⟩)
   refine(K0.out w1 (Ha.out.bel Hd)).mono ?_;rintro e w4 ⟨a,cp,rfl,ht,Hi⟩;have H5:=bt Hd Hi;obtain⟨a1,a2⟩:=l0.keep H5;obtain⟨a3,a4⟩:=l1.keep H5;have hb:=bt Hc.out H5;have H6:=(H5.block _ (by rw[H9.out];omega)).trans Hb.out;have H7:w.heap.size<w1.heap.size:=by have:=Hd.size;rw[H9.out]at this;omega
   have H8:=z7 H6;clear H6
   go_wp2_with fail
   refine bodyPost_ret (v:=.tuple #[.agg #[.slice a 1 cp,.int .i64 0],.bool true]) (by simp[results,results185,go_sem,a1,a2,a3,a4]) rfl ?_;exact⟨a,cp,rfl,((ht.set H7 H8.out (by decide) _).set H7 (heap_setCell_same _ _ _ _ _ _ H8.out) (by decide) _).mono (by omega),(hb.setCell (zA) _).setCell (zA) _⟩
 . go_enter func185,ntmps185
   go_wp2_with fail
   refine(K1.out _ Ha.out).mono ?_;rintro e w4 ⟨a,cp,rfl,ht,H5⟩;obtain⟨a1,a2⟩:=l0.keep H5;obtain⟨a3,a4⟩:=l1.keep H5;have hb:=bt Hc.out H5;have H6:=(H5.block _ (by rw[H9.out];omega)).trans Hb.out;have H7:w.heap.size<(w.alloc (.cells #[.slice none 0 0,.int .i64 0] 230)).heap.size:=by rw[H9.out];omega
   have H8:=z7 H6;clear H6
   go_wp2_with fail
   refine bodyPost_ret (v:=.tuple #[.agg #[.slice a 2 cp,.int .i64 1],.bool true]) (by simp[results,results185,go_sem,a1,a2,a3,a4]) rfl ?_;exact⟨a,cp,rfl,((ht.set H7 H8.out (by decide) _).set H7 (heap_setCell_same _ _ _ _ _ _ H8.out) (by decide) _).mono (Nat.le_of_lt H7),(hb.setCell (zA) _).setCell (zA) _⟩
 . go_enter func185,ntmps185
   go_wp2_with fail
   refine(K2.out _ Ha.out).mono ?_;rintro e w4 ⟨a,cp,rfl,ht,H5⟩;obtain⟨a1,a2⟩:=l0.keep H5;obtain⟨a3,a4⟩:=l1.keep H5;have hb:=bt Hc.out H5;have H6:=(H5.block _ (by rw[H9.out];omega)).trans Hb.out;have H7:w.heap.size<(w.alloc (.cells #[.slice none 0 0,.int .i64 0] 230)).heap.size:=by rw[H9.out];omega
   have H8:=z7 H6;clear H6
   go_wp2_with fail
   refine bodyPost_ret (v:=.tuple #[.agg #[.slice a 14 cp,.int .i64 2],.bool true]) (by simp[results,results185,go_sem,a1,a2,a3,a4]) rfl ?_;exact⟨a,cp,rfl,((ht.set H7 H8.out (by decide) _).set H7 (heap_setCell_same _ _ _ _ _ _ H8.out) (by decide) _).mono (Nat.le_of_lt H7),(hb.setCell (zA) _).setCell (zA) _⟩
 . go_enter func185,ntmps185
   go_wp2_with fail
   refine(K3.out _ Ha.out).mono ?_;rintro e w4 ⟨a,cp,rfl,ht,H5⟩;obtain⟨a1,a2⟩:=l0.keep H5;obtain⟨a3,a4⟩:=l1.keep H5;have hb:=bt Hc.out H5;have H6:=(H5.block _ (by rw[H9.out];omega)).trans Hb.out;have H7:w.heap.size<(w.alloc (.cells #[.slice none 0 0,.int .i64 0] 230)).heap.size:=by rw[H9.out];omega
   have H8:=z7 H6;clear H6
   go_wp2_with fail
   refine bodyPost_ret (v:=.tuple #[.agg #[.slice a 5 cp,.int .i64 3],.bool true]) (by simp[results,results185,go_sem,a1,a2,a3,a4]) rfl ?_;exact⟨a,cp,rfl,((ht.set H7 H8.out (by decide) _).set H7 (heap_setCell_same _ _ _ _ _ _ H8.out) (by decide) _).mono (Nat.le_of_lt H7),(hb.setCell (zA) _).setCell (zA) _⟩
