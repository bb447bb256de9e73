/- B7 -/
import Derived.Test.YtagjkmkmphamoaaGreatDoorPB6
import Derived.Deep.RegionHeld3
set_option linter.all false
set_option maxHeartbeats 16000000
namespace Go.Proofs.YtagjkmkmphamoaaGreatDoor
open Go.RowKit
theorem two_of{α:Type}(l:List α)(h:l.length=2):∃a b,l = [a,b]:=by
 match l,h with
 | [a,b],_=>exact⟨a,b,rfl⟩
theorem kg5{size:Nat}{r:List PG}{at_:List Nat}{ps:List (List UInt8)}{k:Nat}(h:pairM size r at_=.inl (ps,k)):(∃pa pb,ps = [pa,pb])∧1≤k∧k≤r.length∧ps.flatten.length≤(r.map gsz).sum:=by
 unfold pairM at h;split at h
 · cases h
 · rename_i k' hs
   obtain⟨b1,b2⟩:=kj7 _ _ _ _ hs;split at h
   · cases h
   · split at h
     · cases h
     · rename_i h2
       split at h
       · cases h
       · simp only[Sum.inl.injEq,Prod.mk.injEq]at h
         obtain⟨rfl,rfl⟩:=h;have hl:(joinG (r.take k') 0 false [] []).1.length=2:=Classical.byContradiction fun x=>h2 (.inr x)
         refine⟨two_of _ hl,b1,by omega,?_⟩;have h3:=qj9 (r.take k') 0 false [] [];have h4:=qx5 r k';rw[List.map_take]at h4;simp only[List.flatten_nil,List.length_nil,Nat.zero_add]at h3;rw[List.map_take]at h3;omega
theorem parse_e{R:List UInt8→Int}{fr:Bool}{x:RS}(h:(parseR R fr x).1.e≠0):(parseR R fr x).2=none:=by
 unfold parseR at h ⊢;split
 · rfl
 · rename_i h1
   rw[if_neg h1]at h;split
   · rfl
   · rename_i h2
     rw[if_neg h2]at h;simp only at h ⊢;rw[if_pos h]
theorem kg2{w:World}{B:Nat}{e:TypeId}{s n m:Nat}{av:Option Addr}{cap:Nat}{x y:Value}(h:w.ownsRow B e s (.slice av m cap) n [x,y])(hn:n≠0):∃g,av=some ⟨g,0,none⟩∧w.cell? ⟨g,0,none⟩=some x∧w.cell? ⟨g,1,none⟩=some y:=by
 obtain⟨g,cap',hv,_,_,_,hc⟩:=jn7 h hn;simp only[Value.slice.injEq]at hv;obtain⟨rfl,_,_⟩:=hv;refine⟨g,rfl,?_,?_⟩
 · have:=hc 0 x rfl;simpa using this
 · have:=hc 1 y rfl;simpa using this
theorem vs8(a b:List UInt8):scells ([a,b].map toB) = [.string (toB a),.string (toB b)]:=rfl
set_option maxRecDepth 100000 in
theorem vw9(s:ByteArray)(kd fb bu:Int)(g:Bool)(w:World)(hT:TW w)(hs:s.size≤1048576)(hb:(pagesM crcN s).2.1=0)(p0:PG)(r:List PG)(hl:(pagesM crcN s).1.1=p0::r)(hi:strayF p0.se (p0::r) 0=none)(ho:opensG p0=true)(pa pb:List UInt8)(k:Nat)(hp:pairM s.size r (pagesM crcN s).1.2=.inl ([pa,pb],k))(he:(notesO (RM fb g) pa).1.e≠0):
 Calls Tryz.prog 14 #[.string s,.agg #[.int .i64 kd,.int .i64 fb,.bool g,.int .i64 bu]] w (OParsePost (noOS,(notesO (RM fb g) pa).1.e,((pagesM crcN s).1.2.getD 1 0:Nat)) w):=by
 have kpg:=fun w=>jf9 s w (by omega)
 have hgood:=jn5 s hb;generalize pagesM crcN s=D at *;have kb:=fun w=>jb8 D.2.1 D.2.2 w
 rw[show(!decide (D.2.1=0))=false by simpa using hb]at kb;obtain⟨hg,hsum,hpl,hn⟩:=hgood;rw[hl]at hg hsum hpl hn;have hsm:∀p∈p0::r,p.la.size≤1073741824∧p.bo.size≤1073741824:=fun p hp=>by
  have h1:=(hg p hp).1;have h2:=(hg p hp).2.1;have h3:=jf1 (bl p.la);rw[jb1]at h3;omega
 have km:=fun a w=>jh5 a w
 have ks:∀(v:Value) (w:World),Row w v (p0::r).length (gcells (p0::r))→Calls Tryz.prog 37 #[v] w fun e w'=>e=.returned (.int .i64 (optI (strayF p0.se (p0::r) 0)))∧Below w.heap.size w w':=fun v w h=>jg6 v (p0::r) p0.se w h (by omega) (fun p hp=>by simp at hp;rw[←hp])
 have ko:∀w,Calls Tryz.prog 29 #[gV p0] w fun e w'=>e=.returned (.bool (opensG p0))∧Below w.heap.size w w':=fun w=>jf4 p0 w (hsm p0 (by simp)).1 (hsm p0 (by simp)).2
 unfold gV at ko;rw[ho]at ko;have kpr:∀(v u:Value) (w':World),w'.ownsRow (w.heap.size+3) 27 6 v (p0::r).length (gcells (p0::r))→w'.ownsRow (w.heap.size+3) 3 1 u (p0::r).length (ncells (plV D.1.2))→Calls Tryz.prog 39 #[.string s,v,u] w' (PairPost (pairM s.size r D.1.2) w'):=fun v u w' h1 h2=>by
  have h3:=jc2 h2;rw[←hpl]at h3;exact kg6 s (w.heap.size+3) v u p0 r D.1.2 w' h1 h3 (by rw[hpl,List.length_cons]) (by rw[List.length_cons]at hn;omega) (by omega) hsm
 rw[hp]at kpr;unfold PairPost at kpr;simp only at kpr;obtain⟨_,k1,k2,hfl⟩:=kg5 hp;have hpa:(toB pa).size≤1048576:=by
  have h1:pa.length ≤ [pa,pb].flatten.length:=qc6 (by simp);rw[List.map_cons,List.sum_cons]at hsum;rw[szB];omega
 have krd:=fun w=>jn2 (toB pa) w
 have kwt:=fun w rr h=>jt6 w rr ⟨toB pa,0,0,0,0⟩ ⟨#[3,118,111,114,98,105,115]⟩ h ⟨Nat.zero_le _,by show(toB pa).size≤_;omega,Nat.zero_le _⟩ (by decide)
 have hokx:okR (wantR ⟨toB pa,0,0,0,0⟩ ⟨#[3,118,111,114,98,105,115]⟩).1:=jt1 ⟨Nat.zero_le _,by show(toB pa).size≤_;omega,Nat.zero_le _⟩ _;have hsx:(wantR ⟨toB pa,0,0,0,0⟩ ⟨#[3,118,111,114,98,105,115]⟩).1.s.size≤1048576:=by rw[kx6];exact hpa
 have hno:notesO (RM fb g) pa=parseR (RM fb g) true (wantR ⟨toB pa,0,0,0,0⟩ ⟨#[3,118,111,114,98,105,115]⟩).1:=rfl;generalize hx1:wantR ⟨toB pa,0,0,0,0⟩ ⟨#[3,118,111,114,98,105,115]⟩=X1 at *;obtain⟨x1,xb⟩:=X1;simp only at kwt hokx hsx hno;have kpa:=fun w rr (h1:TW w) (h2:4≤rr) (h3:InX w rr x1)=>jv1 w rr x1 true kd fb bu g h1 h2 h3 hokx hsx
 rw[hno]at he ⊢;have hnone:=parse_e he;unfold ParsePost at kpa;rw[hnone]at kpa;simp only at kpa;unfold noneV at kpa;have kfl:=fun w rr h=>jc5 w rr (parseR (RM fb g) true x1).1 h
 have kb3:=fun w=>jb8 (parseR (RM fb g) true x1).1.e (parseR (RM fb g) true x1).1.a w
 rw[show(!decide ((parseR (RM fb g) true x1).1.e=0))=true by simpa using he]at kb3;generalize (parseR (RM fb g) true x1).1=y at *;obtain⟨ys,yb,yn,ye,ya⟩:=y;simp only at kfl kb3 he ⊢;obtain⟨W,hW,hWs,hbW,h0,h1,h2⟩:=jm1 w kd fb bu g;have KPO:Hid (∀(w1:World) (v1 v2:Value),Below W.heap.size W w1→w1.ownsRow W.heap.size 27 6 v1 D.1.1.length (gcells D.1.1)→w1.ownsRow W.heap.size 3 1 v2 D.1.1.length (ncells (plV D.1.2))→OP w kd fb bu g w1.heap.size v1 v2 D.1.1 D.1.2 D.2.1 D.2.2 (w1.alloc (.cells #[.int .i64 D.2.1,.int .i64 D.2.2] 54))):=Lib.hid fun w1 v1 v2 hb r1 r2=>qh8 hWs hbW h0 h1 h2 hb r1 r2
 unfold PagesPost at kpg;rw[hl]at kpg KPO;rw[hi]at ks;unfold optI at ks;simp only at ks;generalize D.2.1=c at *;generalize D.2.2=a at *;generalize D.1.2=pl at *;obtain⟨n,hn'⟩:∃n,n=(p0::r).length:=⟨_,rfl⟩;have hn0:(p0::r).length≠0:=by rw[List.length_cons];omega
 have e1:((n:Int)==0)=false:=by rw[beq_eq_false_iff_ne];omega
 have e2:(n==0)=false:=by rw[beq_eq_false_iff_ne];omega
 have e3:¬(n:Int)=0:=by omega
 have e4:¬n=0:=by omega
 rw[←hn']at kpg KPO hn;have m1:(0:Int)<(n:Int):=by omega
 have hn2:2≤n:=by rw[hn',List.length_cons];omega
 have kb2:=fun w=>jb8 0 0 w
 rw[show(!decide ((0:Int)=0))=false from rfl]at kb2;have hat:=km0 pl 1 (by omega);generalize pl.getD 1 0=A at *;have l1:(1:Int)<(n:Int):=by omega
 clear hb hl hi hg hsum hpl hsm ho hp hx1 hpa hokx hsx hfl;clear hno hnone he;clear hWs hbW h0 h1 h2;have KPG:=Lib.hid kpg;have KB:=Lib.hid kb;have KS:=Lib.hid ks;have KM:=Lib.hid km;have HN:=Lib.hid hn';have KO:=Lib.hid ko;have HN0:=Lib.hid hn0;have KPR:=Lib.hid kpr;have KB2:=Lib.hid kb2;have KRD:=Lib.hid krd;have KWT:=Lib.hid kwt;have KPA:=Lib.hid kpa;have KFL:=Lib.hid kfl;have KB3:=Lib.hid kb3;have HAT:=Lib.hid hat;have HT:=Lib.hid hT;clear kpg kb ks km hn' ko hn0 kpr kb2 krd kwt kpa kfl kb3 hat hT
 go_enter Tryz.func14,Tryz.ntmps14
 go_wp2_with fail
 rw[←hW];clear hW
 go_wp2_with (first
  | (go_at_call 36;go_loud (with_reducible refine(KPG.out _).mono ?_);go_loud (rintro e1 w1 ⟨hb1,v1,v2,rfl,ho1,ho2⟩);go_loud (have P:=KPO.out _ _ _ hb1 ho1 ho2);go_loud (obtain⟨a1,c1,rfl⟩:=jb4 ho1);go_loud (obtain⟨a2,c2,rfl⟩:=jb4 ho2);go_loud (clear ho1 ho2 hb1);go_loud (obtain⟨f0,f0',f1,f1'⟩:=P.fl))
  | (go_at_call 16;go_loud (with_reducible refine(KB.out _).mono ?_);go_loud (rintro e2 w2 ⟨rfl,hb2⟩);go_loud (replace P:=P.bel hb2);go_loud (clear hb2 f0 f0' f1 f1');go_loud (obtain⟨f0,f0',f1,f1'⟩:=P.fl))
  | (go_at_call 37;go_loud (with_reducible refine(KS.out _ _ (jc2 P.r1)).mono ?_);go_loud (rintro e3 w3 ⟨rfl,hb3⟩);go_loud (replace P:=P.bel hb3);go_loud (clear hb3);go_loud (obtain⟨g1,rfl,z0,z1,z2,z3,z4,z5⟩:=jk0 P.r1 HN0.out))
  | (go_at_call 29;go_loud (with_reducible refine(KO.out _).mono ?_);go_loud (rintro e4 w4 ⟨rfl,hb4⟩);go_loud (replace P:=P.bel hb4);go_loud (clear hb4 z0 z1 z2 z3 z4 z5))
  | (go_at_call 39;go_loud (with_reducible refine(KPR.out _ _ _ P.r1 P.r2).mono ?_);go_loud (rintro e5 w5 ⟨hb5,v3,rfl,ho3⟩);go_loud (obtain⟨a3,c3,rfl⟩:=jb4 ho3);go_loud (simp only[List.length_cons,List.length_nil,Nat.zero_add,Nat.reduceAdd]at ho3 ⊢);go_loud (have hz4:=Nat.lt_of_le_of_lt P.hF (Array.getElem?_eq_some_iff.1 P.f1).1);go_loud (replace P:=P.bel hb5);go_loud (clear hb5 f0 f0' f1 f1');go_loud (have H3:=kk5 (c':=0) (a':=0) P.f1 ho3 (by decide));go_loud (obtain⟨f0,f0',f1,f1'⟩:=P.fl);go_loud (have PF:=P.fault 0 0);go_loud (clear ho3))
  | (go_at_call 16;go_loud (with_reducible refine(KB2.out _).mono ?_);go_loud (rintro e6 w6 ⟨rfl,hb6⟩);go_loud (replace P:=PF.bel hb6);go_loud (replace H3:=jb2 H3 hb6);go_loud (clear hb6 PF f0 f0' f1 f1');go_loud (rw[vs8]at H3);go_loud (obtain⟨g3,rfl,y0,y1⟩:=kg2 H3 (by decide));go_loud (have HY1:=Lib.hid y1))
  | (go_at_call 40;go_loud (with_reducible refine(KRD.out _).mono ?_);go_loud (rintro e7 w7 ⟨rr,rfl,hrr,hi,hbk⟩);go_loud (clear y0 y1);go_loud (have hr4:4≤rr:=Nat.le_trans (show 4≤4 by decide) (Nat.le_trans HT.out.sz (Nat.le_trans P.gg.size hrr))))
  | (go_at_call 41;go_loud (with_reducible refine(KWT.out _ _ hi).mono ?_);go_loud (rintro e8 w8 ⟨rfl,hi8,hg8⟩);go_loud (replace hbk:=jd5 hbk hg8 hrr);go_loud (clear hi hg8);go_loud (obtain⟨o0,o1,o2,o3⟩:=(P.bel hbk).opt))
  | (go_at_call 42;go_loud (with_reducible refine(KPA.out _ _ (HT.out.bel (P.bel hbk).gg) hr4 hi8).mono ?_);go_loud (rintro e9 w9 ⟨hi9,hg9,rfl⟩);go_loud (replace hbk:=bal (jd5 hbk hg9 hrr) (.cells #[.string ⟨#[]⟩,.int .i64 0,.slice none 0 0] 33));go_loud (replace hi9:=hi9.bel (bal (Below.refl w9.heap.size w9) (.cells #[.string ⟨#[]⟩,.int .i64 0,.slice none 0 0] 33)));go_loud (clear hi8 hg9 o0 o1 o2 o3))
  | (go_at_call 43;go_loud (with_reducible refine(KFL.out _ _ hi9).mono ?_);go_loud (rintro e10 w10 ⟨rfl,hb10⟩);go_loud (have hz:=(bt hbk hb10).size);go_loud (replace hbk:=bal (bt hbk hb10) (.cells #[.int .i64 ye,.int .i64 ya] 54));go_loud (have j0:=(Live.fresh w10 #[.int .i64 ye,.int .i64 ya] 54 0 _ rfl).1);go_loud (have j1:=(Live.fresh w10 #[.int .i64 ye,.int .i64 ya] 54 1 _ rfl).1))
  | (go_at_call 16;go_loud (with_reducible refine(KB3.out _).mono ?_);go_loud (rintro e11 w11 ⟨rfl,hb11⟩);go_loud (replace hbk:=bt hbk hb11);go_loud (replace j0:=kc hb11 j0);go_loud (replace j1:=kc hb11 j1);go_loud (clear hi9 hb11);go_loud (obtain⟨q0,q0'⟩:=(P.bel hbk).res 0 _ rfl);go_loud (obtain⟨q1,q1'⟩:=(P.bel hbk).res 1 _ rfl);go_loud (obtain⟨q2,q2'⟩:=(P.bel hbk).res 2 _ rfl);go_loud (obtain⟨q3,q3'⟩:=(P.bel hbk).res 3 _ rfl);go_loud (obtain⟨q4,q4'⟩:=(P.bel hbk).res 4 _ rfl);go_loud (obtain⟨q5,q5'⟩:=(P.bel hbk).res 5 _ rfl);go_loud (obtain⟨q6,q6'⟩:=(P.bel hbk).res 6 _ rfl);go_loud (obtain⟨q7,q7'⟩:=(P.bel hbk).res 7 _ rfl);go_loud (obtain⟨q8,q8'⟩:=(P.bel hbk).res 8 _ rfl);go_loud (obtain⟨q9,q9'⟩:=(P.bel hbk).res 9 _ rfl);go_loud (obtain⟨q10,q10'⟩:=(P.bel hbk).res 10 _ rfl);go_loud (obtain⟨q11,q11',q12,q12'⟩:=(P.bel hbk).ret);go_loud (obtain⟨ga2,oa2,e2,ca⟩:=qq7 (jb2 P.r2 hbk) HAT.out);go_loud (subst e2);go_loud (have hF6:=(Array.getElem?_eq_some_iff.1 P.f1).1);go_loud (have hF0:=P.hF);go_loud (have hga:=(jb7 P.r2 ga2 rfl).1);go_loud (have m10a:¬w10.heap.size=w.heap.size+1:=by omega);go_loud (have m10b:¬w.heap.size+1=w10.heap.size:=by omega);go_loud (have m11a:¬w10.heap.size=w.heap.size+1+1:=by omega);go_loud (have m11b:¬w.heap.size+1+1=w10.heap.size:=by omega);go_loud (have m12a:¬ga2=w.heap.size+1:=by omega);go_loud (have m12b:¬w.heap.size+1=ga2:=by omega);go_loud (have m13a:¬ga2=w.heap.size+1+1:=by omega);go_loud (have m13b:¬w.heap.size+1+1=ga2:=by omega);go_loud (clear hF6 hF0 hga hz))
  | fail)
 go_region
 all_goals
  go_wp2_with fail
  refine bodyPost_ret (v:=.tuple #[.agg noSC,.agg #[.int .i64 ye,.int .i64 (A:Int)]]) (by simp[results,Tryz.results14,go_sem,q0,q0',q1,q1',q2,q2',q3,q3',q4,q4',q5,q5',q6,q6',q7,q7',q8,q8',q9,q9',q10,q10',q11,q11',q12,q12']) rfl ?_;refine OParsePost.drew ?_;refine jg4 ?_ ye (A:Int);exact(P.bel hbk).gg
set_option maxRecDepth 100000 in
theorem vw8(s:ByteArray)(kd fb bu:Int)(g:Bool)(w:World)(hT:TW w)(hs:s.size≤1048576)(hb:(pagesM crcN s).2.1=0)(p0:PG)(r:List PG)(hl:(pagesM crcN s).1.1=p0::r)(hi:strayF p0.se (p0::r) 0=none)(ho:opensG p0=true)(pa pb:List UInt8)(k:Nat)(hp:pairM s.size r (pagesM crcN s).1.2=.inl ([pa,pb],k))(he:(notesO (RM fb g) pa).1.e=0)(hpre:preM pb (vorb 5)=false):
 Calls Tryz.prog 14 #[.string s,.agg #[.int .i64 kd,.int .i64 fb,.bool g,.int .i64 bu]] w (OParsePost (noOS,1,((pagesM crcN s).1.2.getD k 0:Nat)) w):=by
 have kpg:=fun w=>jf9 s w (by omega)
 have hgood:=jn5 s hb;generalize pagesM crcN s=D at *;have kb:=fun w=>jb8 D.2.1 D.2.2 w
 rw[show(!decide (D.2.1=0))=false by simpa using hb]at kb;obtain⟨hg,hsum,hpl,hn⟩:=hgood;rw[hl]at hg hsum hpl hn;have hsm:∀p∈p0::r,p.la.size≤1073741824∧p.bo.size≤1073741824:=fun p hp=>by
  have h1:=(hg p hp).1;have h2:=(hg p hp).2.1;have h3:=jf1 (bl p.la);rw[jb1]at h3;omega
 have km:=fun a w=>jh5 a w
 have ks:∀(v:Value) (w:World),Row w v (p0::r).length (gcells (p0::r))→Calls Tryz.prog 37 #[v] w fun e w'=>e=.returned (.int .i64 (optI (strayF p0.se (p0::r) 0)))∧Below w.heap.size w w':=fun v w h=>jg6 v (p0::r) p0.se w h (by omega) (fun p hp=>by simp at hp;rw[←hp])
 have ko:∀w,Calls Tryz.prog 29 #[gV p0] w fun e w'=>e=.returned (.bool (opensG p0))∧Below w.heap.size w w':=fun w=>jf4 p0 w (hsm p0 (by simp)).1 (hsm p0 (by simp)).2
 unfold gV at ko;rw[ho]at ko;have kpr:∀(v u:Value) (w':World),w'.ownsRow (w.heap.size+3) 27 6 v (p0::r).length (gcells (p0::r))→w'.ownsRow (w.heap.size+3) 3 1 u (p0::r).length (ncells (plV D.1.2))→Calls Tryz.prog 39 #[.string s,v,u] w' (PairPost (pairM s.size r D.1.2) w'):=fun v u w' h1 h2=>by
  have h3:=jc2 h2;rw[←hpl]at h3;exact kg6 s (w.heap.size+3) v u p0 r D.1.2 w' h1 h3 (by rw[hpl,List.length_cons]) (by rw[List.length_cons]at hn;omega) (by omega) hsm
 rw[hp]at kpr;unfold PairPost at kpr;simp only at kpr;obtain⟨_,k1,k2,hfl⟩:=kg5 hp;have hpa:(toB pa).size≤1048576:=by
  have h1:pa.length ≤ [pa,pb].flatten.length:=qc6 (by simp);rw[List.map_cons,List.sum_cons]at hsum;rw[szB];omega
 have krd:=fun w=>jn2 (toB pa) w
 have kwt:=fun w rr h=>jt6 w rr ⟨toB pa,0,0,0,0⟩ ⟨#[3,118,111,114,98,105,115]⟩ h ⟨Nat.zero_le _,by show(toB pa).size≤_;omega,Nat.zero_le _⟩ (by decide)
 have hokx:okR (wantR ⟨toB pa,0,0,0,0⟩ ⟨#[3,118,111,114,98,105,115]⟩).1:=jt1 ⟨Nat.zero_le _,by show(toB pa).size≤_;omega,Nat.zero_le _⟩ _;have hsx:(wantR ⟨toB pa,0,0,0,0⟩ ⟨#[3,118,111,114,98,105,115]⟩).1.s.size≤1048576:=by rw[kx6];exact hpa
 have hno:notesO (RM fb g) pa=parseR (RM fb g) true (wantR ⟨toB pa,0,0,0,0⟩ ⟨#[3,118,111,114,98,105,115]⟩).1:=rfl;generalize hx1:wantR ⟨toB pa,0,0,0,0⟩ ⟨#[3,118,111,114,98,105,115]⟩=X1 at *;obtain⟨x1,xb⟩:=X1;simp only at kwt hokx hsx hno;have kpa:=fun w rr (h1:TW w) (h2:4≤rr) (h3:InX w rr x1)=>jv1 w rr x1 true kd fb bu g h1 h2 h3 hokx hsx
 rw[hno]at he
 try rw[hno]
 obtain⟨b,hsome⟩:=kt0 true x1 he;unfold ParsePost at kpa;rw[hsome]at kpa
 try rw[hsome]
 simp only at kpa;have kfl:=fun w rr h=>jc5 w rr (parseR (RM fb g) true x1).1 h
 have kb3:=fun w=>jb8 (parseR (RM fb g) true x1).1.e (parseR (RM fb g) true x1).1.a w
 rw[show(!decide ((parseR (RM fb g) true x1).1.e=0))=false by simpa using he]at kb3;generalize (parseR (RM fb g) true x1).1=y at *;obtain⟨ys,yb,yn,ye,ya⟩:=y;obtain⟨bt_,bs,ns⟩:=b;simp only[Option.getD]at kfl kb3 he kpa ⊢;have kx:∀(w:World),Calls Tryz.prog 31 #[.string (toB pb),.string ⟨#[5,118,111,114,98,105,115]⟩] w fun e w'=>e=.returned (.bool (preM (bl (toB pb)) (vorb 5)))∧w=w':=fun w=>(jn4 (toB pb) 5 w).mono fun e w' h=>⟨h.1,h.2.symm⟩
 rw[jf5,hpre]at kx;obtain⟨nn,hnn⟩:∃nn,nn=ns.length:=⟨_,rfl⟩;obtain⟨W,hW,hWs,hbW,h0,h1,h2⟩:=jm1 w kd fb bu g;have KPO:Hid (∀(w1:World) (v1 v2:Value),Below W.heap.size W w1→w1.ownsRow W.heap.size 27 6 v1 D.1.1.length (gcells D.1.1)→w1.ownsRow W.heap.size 3 1 v2 D.1.1.length (ncells (plV D.1.2))→OP w kd fb bu g w1.heap.size v1 v2 D.1.1 D.1.2 D.2.1 D.2.2 (w1.alloc (.cells #[.int .i64 D.2.1,.int .i64 D.2.2] 54))):=Lib.hid fun w1 v1 v2 hb r1 r2=>qh8 hWs hbW h0 h1 h2 hb r1 r2
 unfold PagesPost at kpg;rw[hl]at kpg KPO;rw[hi]at ks;unfold optI at ks;simp only at ks;generalize D.2.1=c at *;generalize D.2.2=a at *;generalize D.1.2=pl at *;obtain⟨n,hn'⟩:∃n,n=(p0::r).length:=⟨_,rfl⟩;have hn0:(p0::r).length≠0:=by rw[List.length_cons];omega
 have e1:((n:Int)==0)=false:=by rw[beq_eq_false_iff_ne];omega
 have e2:(n==0)=false:=by rw[beq_eq_false_iff_ne];omega
 have e3:¬(n:Int)=0:=by omega
 have e4:¬n=0:=by omega
 rw[←hn']at kpg KPO hn;have m1:(0:Int)<(n:Int):=by omega
 have hn2:2≤n:=by rw[hn',List.length_cons];omega
 have kb2:=fun w=>jb8 0 0 w
 rw[show(!decide ((0:Int)=0))=false from rfl]at kb2;have hkn:k<n:=by rw[hn',List.length_cons];omega
 have hat:=km0 pl k (by omega);generalize pl.getD k 0=A at *;have l0:(0:Int)≤(k:Int):=by omega
 have l1:(k:Int)<(n:Int):=by omega
 rw[←hnn]at kpa;clear hb hl hi hg hsum hpl hsm ho hp hx1 hpa hokx hsx hfl;clear hno hsome he hpre;clear hWs hbW h0 h1 h2;have KPG:=Lib.hid kpg;have KB:=Lib.hid kb;have KS:=Lib.hid ks;have KM:=Lib.hid km;have HN:=Lib.hid hn';have KO:=Lib.hid ko;have HN0:=Lib.hid hn0;have KPR:=Lib.hid kpr;have KB2:=Lib.hid kb2;have KRD:=Lib.hid krd;have KWT:=Lib.hid kwt;have KPA:=Lib.hid kpa;have KFL:=Lib.hid kfl;have KB3:=Lib.hid kb3;have HAT:=Lib.hid hat;have HT:=Lib.hid hT;have KX:=Lib.hid kx;have HNN:=Lib.hid hnn;clear kpg kb ks km hn' ko hn0 kpr kb2 krd kwt kpa kfl kb3 hat hT kx hnn
 go_enter Tryz.func14,Tryz.ntmps14
 go_wp2_with fail
 rw[←hW];clear hW
 go_wp2_with (first
  | (go_at_call 36;go_loud (with_reducible refine(KPG.out _).mono ?_);go_loud (rintro e1 w1 ⟨hb1,v1,v2,rfl,ho1,ho2⟩);go_loud (have P:=KPO.out _ _ _ hb1 ho1 ho2);go_loud (obtain⟨a1,c1,rfl⟩:=jb4 ho1);go_loud (obtain⟨a2,c2,rfl⟩:=jb4 ho2);go_loud (clear ho1 ho2 hb1);go_loud (obtain⟨f0,f0',f1,f1'⟩:=P.fl))
  | (go_at_call 16;go_loud (with_reducible refine(KB.out _).mono ?_);go_loud (rintro e2 w2 ⟨rfl,hb2⟩);go_loud (replace P:=P.bel hb2);go_loud (clear hb2 f0 f0' f1 f1');go_loud (obtain⟨f0,f0',f1,f1'⟩:=P.fl))
  | (go_at_call 37;go_loud (with_reducible refine(KS.out _ _ (jc2 P.r1)).mono ?_);go_loud (rintro e3 w3 ⟨rfl,hb3⟩);go_loud (replace P:=P.bel hb3);go_loud (clear hb3);go_loud (obtain⟨g1,rfl,z0,z1,z2,z3,z4,z5⟩:=jk0 P.r1 HN0.out))
  | (go_at_call 29;go_loud (with_reducible refine(KO.out _).mono ?_);go_loud (rintro e4 w4 ⟨rfl,hb4⟩);go_loud (replace P:=P.bel hb4);go_loud (clear hb4 z0 z1 z2 z3 z4 z5))
  | (go_at_call 39;go_loud (with_reducible refine(KPR.out _ _ _ P.r1 P.r2).mono ?_);go_loud (rintro e5 w5 ⟨hb5,v3,rfl,ho3⟩);go_loud (obtain⟨a3,c3,rfl⟩:=jb4 ho3);go_loud (simp only[List.length_cons,List.length_nil,Nat.zero_add,Nat.reduceAdd]at ho3 ⊢);go_loud (have hz4:=Nat.lt_of_le_of_lt P.hF (Array.getElem?_eq_some_iff.1 P.f1).1);go_loud (replace P:=P.bel hb5);go_loud (clear hb5 f0 f0' f1 f1');go_loud (have H3:=kk5 (c':=0) (a':=0) P.f1 ho3 (by decide));go_loud (obtain⟨f0,f0',f1,f1'⟩:=P.fl);go_loud (have PF:=P.fault 0 0);go_loud (clear ho3))
  | (go_at_call 16;go_loud (with_reducible refine(KB2.out _).mono ?_);go_loud (rintro e6 w6 ⟨rfl,hb6⟩);go_loud (replace P:=PF.bel hb6);go_loud (replace H3:=jb2 H3 hb6);go_loud (clear hb6 PF f0 f0' f1 f1');go_loud (rw[vs8]at H3);go_loud (obtain⟨g3,rfl,y0,y1⟩:=kg2 H3 (by decide));go_loud (have HY1:=Lib.hid y1))
  | (go_at_call 40;go_loud (with_reducible refine(KRD.out _).mono ?_);go_loud (rintro e7 w7 ⟨rr,rfl,hrr,hi,hbk⟩);go_loud (clear y0 y1);go_loud (have hr4:4≤rr:=Nat.le_trans (show 4≤4 by decide) (Nat.le_trans HT.out.sz (Nat.le_trans P.gg.size hrr))))
  | (go_at_call 41;go_loud (with_reducible refine(KWT.out _ _ hi).mono ?_);go_loud (rintro e8 w8 ⟨rfl,hi8,hg8⟩);go_loud (replace hbk:=jd5 hbk hg8 hrr);go_loud (clear hi hg8);go_loud (obtain⟨o0,o1,o2,o3⟩:=(P.bel hbk).opt))
  | (go_at_call 42;go_loud (with_reducible refine(KPA.out _ _ (HT.out.bel (P.bel hbk).gg) hr4 hi8).mono ?_);go_loud (rintro e9 w9 ⟨hi9,hg9,vn,rfl,hn9⟩);go_loud (have hz8:=hbk.size);go_loud (have hz9:=(jd5 hbk hg9 hrr).size);go_loud (obtain⟨an,cn,rfl⟩:=jb4 hn9);go_loud (have hbx:=bal (Below.refl w9.heap.size w9) (.cells #[.string bt_,.int .i64 bs,.slice an nn cn] 33));go_loud (replace hn9:=jb2 hn9 hbx);go_loud (replace hbk:=bal (jd5 hbk hg9 hrr) (.cells #[.string bt_,.int .i64 bs,.slice an nn cn] 33));go_loud (replace hi9:=hi9.bel hbx);go_loud (clear hi8 hg9 hbx o0 o1 o2 o3))
  | (go_at_call 43;go_loud (with_reducible refine(KFL.out _ _ hi9).mono ?_);go_loud (rintro e10 w10 ⟨rfl,hb10⟩);go_loud (have hz:=(bt hbk hb10).size);go_loud (replace hbk:=bal (bt hbk hb10) (.cells #[.int .i64 ye,.int .i64 ya] 54));go_loud (have j0:=(Live.fresh w10 #[.int .i64 ye,.int .i64 ya] 54 0 _ rfl).1);go_loud (have j1:=(Live.fresh w10 #[.int .i64 ye,.int .i64 ya] 54 1 _ rfl).1))
  | (go_at_call 16;go_loud (with_reducible refine(KB3.out _).mono ?_);go_loud (rintro e11 w11 ⟨rfl,hb11⟩);go_loud (replace hbk:=bt hbk hb11);go_loud (clear j0 j1 hi9);go_loud (have y1:=kc hbk HY1.out))
  | (go_at_call 31;go_loud (with_reducible refine(KX.out _).mono ?_);go_loud (rintro e12 w12 ⟨rfl,rfl⟩);go_loud (obtain⟨ga2,oa2,e2,ca⟩:=qq7 (jb2 P.r2 hbk) HAT.out);go_loud (subst e2))
  | (go_at_call 38;go_loud (with_reducible refine(KM.out _ _).mono ?_);go_loud (rintro e13 w13 ⟨rfl,hb13⟩);go_loud (replace hbk:=bt hbk hb13);go_loud (clear hb13);go_loud (obtain⟨q0,q0'⟩:=(P.bel hbk).res 0 _ rfl);go_loud (obtain⟨q1,q1'⟩:=(P.bel hbk).res 1 _ rfl);go_loud (obtain⟨q2,q2'⟩:=(P.bel hbk).res 2 _ rfl);go_loud (obtain⟨q3,q3'⟩:=(P.bel hbk).res 3 _ rfl);go_loud (obtain⟨q4,q4'⟩:=(P.bel hbk).res 4 _ rfl);go_loud (obtain⟨q5,q5'⟩:=(P.bel hbk).res 5 _ rfl);go_loud (obtain⟨q6,q6'⟩:=(P.bel hbk).res 6 _ rfl);go_loud (obtain⟨q7,q7'⟩:=(P.bel hbk).res 7 _ rfl);go_loud (obtain⟨q8,q8'⟩:=(P.bel hbk).res 8 _ rfl);go_loud (obtain⟨q9,q9'⟩:=(P.bel hbk).res 9 _ rfl);go_loud (obtain⟨q10,q10'⟩:=(P.bel hbk).res 10 _ rfl);go_loud (obtain⟨q11,q11',q12,q12'⟩:=(P.bel hbk).ret))
  | fail)
 refine bodyPost_ret (v:=.tuple #[.agg noSC,.agg #[.int .i64 1,.int .i64 (A:Int)]]) (by simp[results,Tryz.results14,go_sem,q0,q0',q1,q1',q2,q2',q3,q3',q4,q4',q5,q5',q6,q6',q7,q7',q8,q8',q9,q9',q10,q10',q11,q11',q12,q12']) rfl ?_;refine jg4 ?_ 1 (A:Int);exact(P.bel hbk).gg
set_option maxRecDepth 100000 in
theorem vw7(s:ByteArray)(kd fb bu:Int)(g:Bool)(w:World)(hT:TW w)(hs:s.size≤1048576)(hb:(pagesM crcN s).2.1=0)(p0:PG)(r:List PG)(hl:(pagesM crcN s).1.1=p0::r)(hi:strayF p0.se (p0::r) 0=none)(ho:opensG p0=true)(pa pb:List UInt8)(k:Nat)(hp:pairM s.size r (pagesM crcN s).1.2=.inl ([pa,pb],k))(he:(notesO (RM fb g) pa).1.e=0)(hpre:preM pb (vorb 5)=true):
 Calls Tryz.prog 14 #[.string s,.agg #[.int .i64 kd,.int .i64 fb,.bool g,.int .i64 bu]] w (OParsePost (⟨p0,((notesO (RM fb g) pa).2.getD noBk),⟨pb.toArray⟩,r.drop k⟩,0,0) w):=by
 have kpg:=fun w=>jf9 s w (by omega)
 have hgood:=jn5 s hb;generalize pagesM crcN s=D at *;have kb:=fun w=>jb8 D.2.1 D.2.2 w
 rw[show(!decide (D.2.1=0))=false by simpa using hb]at kb;obtain⟨hg,hsum,hpl,hn⟩:=hgood;rw[hl]at hg hsum hpl hn;have hsm:∀p∈p0::r,p.la.size≤1073741824∧p.bo.size≤1073741824:=fun p hp=>by
  have h1:=(hg p hp).1;have h2:=(hg p hp).2.1;have h3:=jf1 (bl p.la);rw[jb1]at h3;omega
 have km:=fun a w=>jh5 a w
 have ks:∀(v:Value) (w:World),Row w v (p0::r).length (gcells (p0::r))→Calls Tryz.prog 37 #[v] w fun e w'=>e=.returned (.int .i64 (optI (strayF p0.se (p0::r) 0)))∧Below w.heap.size w w':=fun v w h=>jg6 v (p0::r) p0.se w h (by omega) (fun p hp=>by simp at hp;rw[←hp])
 have ko:∀w,Calls Tryz.prog 29 #[gV p0] w fun e w'=>e=.returned (.bool (opensG p0))∧Below w.heap.size w w':=fun w=>jf4 p0 w (hsm p0 (by simp)).1 (hsm p0 (by simp)).2
 unfold gV at ko;rw[ho]at ko;have kpr:∀(v u:Value) (w':World),w'.ownsRow (w.heap.size+3) 27 6 v (p0::r).length (gcells (p0::r))→w'.ownsRow (w.heap.size+3) 3 1 u (p0::r).length (ncells (plV D.1.2))→Calls Tryz.prog 39 #[.string s,v,u] w' (PairPost (pairM s.size r D.1.2) w'):=fun v u w' h1 h2=>by
  have h3:=jc2 h2;rw[←hpl]at h3;exact kg6 s (w.heap.size+3) v u p0 r D.1.2 w' h1 h3 (by rw[hpl,List.length_cons]) (by rw[List.length_cons]at hn;omega) (by omega) hsm
 rw[hp]at kpr;unfold PairPost at kpr;simp only at kpr;obtain⟨_,k1,k2,hfl⟩:=kg5 hp;have hpa:(toB pa).size≤1048576:=by
  have h1:pa.length ≤ [pa,pb].flatten.length:=qc6 (by simp);rw[List.map_cons,List.sum_cons]at hsum;rw[szB];omega
 have krd:=fun w=>jn2 (toB pa) w
 have kwt:=fun w rr h=>jt6 w rr ⟨toB pa,0,0,0,0⟩ ⟨#[3,118,111,114,98,105,115]⟩ h ⟨Nat.zero_le _,by show(toB pa).size≤_;omega,Nat.zero_le _⟩ (by decide)
 have hokx:okR (wantR ⟨toB pa,0,0,0,0⟩ ⟨#[3,118,111,114,98,105,115]⟩).1:=jt1 ⟨Nat.zero_le _,by show(toB pa).size≤_;omega,Nat.zero_le _⟩ _;have hsx:(wantR ⟨toB pa,0,0,0,0⟩ ⟨#[3,118,111,114,98,105,115]⟩).1.s.size≤1048576:=by rw[kx6];exact hpa
 have hno:notesO (RM fb g) pa=parseR (RM fb g) true (wantR ⟨toB pa,0,0,0,0⟩ ⟨#[3,118,111,114,98,105,115]⟩).1:=rfl;generalize hx1:wantR ⟨toB pa,0,0,0,0⟩ ⟨#[3,118,111,114,98,105,115]⟩=X1 at *;obtain⟨x1,xb⟩:=X1;simp only at kwt hokx hsx hno;have kpa:=fun w rr (h1:TW w) (h2:4≤rr) (h3:InX w rr x1)=>jv1 w rr x1 true kd fb bu g h1 h2 h3 hokx hsx
 rw[hno]at he
 try rw[hno]
 obtain⟨b,hsome⟩:=kt0 true x1 he;unfold ParsePost at kpa;rw[hsome]at kpa
 try rw[hsome]
 simp only at kpa;have kfl:=fun w rr h=>jc5 w rr (parseR (RM fb g) true x1).1 h
 have kb3:=fun w=>jb8 (parseR (RM fb g) true x1).1.e (parseR (RM fb g) true x1).1.a w
 rw[show(!decide ((parseR (RM fb g) true x1).1.e=0))=false by simpa using he]at kb3;generalize (parseR (RM fb g) true x1).1=y at *;obtain⟨ys,yb,yn,ye,ya⟩:=y;obtain⟨bt_,bs,ns⟩:=b;simp only[Option.getD]at kfl kb3 he kpa ⊢;have kx:∀(w:World),Calls Tryz.prog 31 #[.string (toB pb),.string ⟨#[5,118,111,114,98,105,115]⟩] w fun e w'=>e=.returned (.bool (preM (bl (toB pb)) (vorb 5)))∧w=w':=fun w=>(jn4 (toB pb) 5 w).mono fun e w' h=>⟨h.1,h.2.symm⟩
 rw[jf5,hpre]at kx;obtain⟨nn,hnn⟩:∃nn,nn=ns.length:=⟨_,rfl⟩;obtain⟨W,hW,hWs,hbW,h0,h1,h2⟩:=jm1 w kd fb bu g;have KPO:Hid (∀(w1:World) (v1 v2:Value),Below W.heap.size W w1→w1.ownsRow W.heap.size 27 6 v1 D.1.1.length (gcells D.1.1)→w1.ownsRow W.heap.size 3 1 v2 D.1.1.length (ncells (plV D.1.2))→OP w kd fb bu g w1.heap.size v1 v2 D.1.1 D.1.2 D.2.1 D.2.2 (w1.alloc (.cells #[.int .i64 D.2.1,.int .i64 D.2.2] 54))):=Lib.hid fun w1 v1 v2 hb r1 r2=>qh8 hWs hbW h0 h1 h2 hb r1 r2
 unfold PagesPost at kpg;rw[hl]at kpg KPO;rw[hi]at ks;unfold optI at ks;simp only at ks;generalize D.2.1=c at *;generalize D.2.2=a at *;generalize D.1.2=pl at *;obtain⟨n,hn'⟩:∃n,n=(p0::r).length:=⟨_,rfl⟩;have hn0:(p0::r).length≠0:=by rw[List.length_cons];omega
 have e1:((n:Int)==0)=false:=by rw[beq_eq_false_iff_ne];omega
 have e2:(n==0)=false:=by rw[beq_eq_false_iff_ne];omega
 have e3:¬(n:Int)=0:=by omega
 have e4:¬n=0:=by omega
 rw[←hn']at kpg KPO hn;have m1:(0:Int)<(n:Int):=by omega
 have hn2:2≤n:=by rw[hn',List.length_cons];omega
 have kb2:=fun w=>jb8 0 0 w
 rw[show(!decide ((0:Int)=0))=false from rfl]at kb2;have hkn:k+1≤n:=by rw[hn',List.length_cons];omega
 have l0:(0:Int)≤(k:Int)+1:=by omega
 have l1:(k:Int)+1≤(n:Int):=by omega
 have hw1:IntKind.i64.wrap ((k:Int)+1)=(k:Int)+1:=wi64 _ (by omega) (by omega);rw[←hnn]at kpa;clear hb hl hi hg hsum hpl hsm ho hp hx1 hpa hokx hsx hfl;clear hno hsome he hpre;clear hWs hbW h0 h1 h2;have KPG:=Lib.hid kpg;have KB:=Lib.hid kb;have KS:=Lib.hid ks;have KM:=Lib.hid km;have HN:=Lib.hid hn';have KO:=Lib.hid ko;have HN0:=Lib.hid hn0;have KPR:=Lib.hid kpr;have KB2:=Lib.hid kb2;have KRD:=Lib.hid krd;have KWT:=Lib.hid kwt;have KPA:=Lib.hid kpa;have KFL:=Lib.hid kfl;have KB3:=Lib.hid kb3;have HT:=Lib.hid hT;have KX:=Lib.hid kx;have HNN:=Lib.hid hnn;clear kpg kb ks km hn' ko hn0 kpr kb2 krd kwt kpa kfl kb3 hT kx hnn
 go_enter Tryz.func14,Tryz.ntmps14
 go_wp2_with fail
 rw[←hW];clear hW
 go_wp2_with (first
  | (go_at_call 36;go_loud (with_reducible refine(KPG.out _).mono ?_);go_loud (rintro e1 w1 ⟨hb1,v1,v2,rfl,ho1,ho2⟩);go_loud (have P:=KPO.out _ _ _ hb1 ho1 ho2);go_loud (obtain⟨a1,c1,rfl⟩:=jb4 ho1);go_loud (obtain⟨a2,c2,rfl⟩:=jb4 ho2);go_loud (clear ho1 ho2 hb1);go_loud (obtain⟨f0,f0',f1,f1'⟩:=P.fl))
  | (go_at_call 16;go_loud (with_reducible refine(KB.out _).mono ?_);go_loud (rintro e2 w2 ⟨rfl,hb2⟩);go_loud (replace P:=P.bel hb2);go_loud (clear hb2 f0 f0' f1 f1');go_loud (obtain⟨f0,f0',f1,f1'⟩:=P.fl))
  | (go_at_call 37;go_loud (with_reducible refine(KS.out _ _ (jc2 P.r1)).mono ?_);go_loud (rintro e3 w3 ⟨rfl,hb3⟩);go_loud (replace P:=P.bel hb3);go_loud (clear hb3);go_loud (obtain⟨g1,rfl,z0,z1,z2,z3,z4,z5⟩:=jk0 P.r1 HN0.out))
  | (go_at_call 29;go_loud (with_reducible refine(KO.out _).mono ?_);go_loud (rintro e4 w4 ⟨rfl,hb4⟩);go_loud (replace P:=P.bel hb4);go_loud (clear hb4 z0 z1 z2 z3 z4 z5))
  | (go_at_call 39;go_loud (with_reducible refine(KPR.out _ _ _ P.r1 P.r2).mono ?_);go_loud (rintro e5 w5 ⟨hb5,v3,rfl,ho3⟩);go_loud (obtain⟨a3,c3,rfl⟩:=jb4 ho3);go_loud (simp only[List.length_cons,List.length_nil,Nat.zero_add,Nat.reduceAdd]at ho3 ⊢);go_loud (have hz4:=Nat.lt_of_le_of_lt P.hF (Array.getElem?_eq_some_iff.1 P.f1).1);go_loud (replace P:=P.bel hb5);go_loud (clear hb5 f0 f0' f1 f1');go_loud (have H3:=kk5 (c':=0) (a':=0) P.f1 ho3 (by decide));go_loud (obtain⟨f0,f0',f1,f1'⟩:=P.fl);go_loud (have PF:=P.fault 0 0);go_loud (clear ho3))
  | (go_at_call 16;go_loud (with_reducible refine(KB2.out _).mono ?_);go_loud (rintro e6 w6 ⟨rfl,hb6⟩);go_loud (replace P:=PF.bel hb6);go_loud (replace H3:=jb2 H3 hb6);go_loud (clear hb6 PF f0 f0' f1 f1');go_loud (rw[vs8]at H3);go_loud (obtain⟨g3,rfl,y0,y1⟩:=kg2 H3 (by decide));go_loud (have HY1:=Lib.hid y1))
  | (go_at_call 40;go_loud (with_reducible refine(KRD.out _).mono ?_);go_loud (rintro e7 w7 ⟨rr,rfl,hrr,hi,hbk⟩);go_loud (clear y0 y1);go_loud (have hr4:4≤rr:=Nat.le_trans (show 4≤4 by decide) (Nat.le_trans HT.out.sz (Nat.le_trans P.gg.size hrr))))
  | (go_at_call 41;go_loud (with_reducible refine(KWT.out _ _ hi).mono ?_);go_loud (rintro e8 w8 ⟨rfl,hi8,hg8⟩);go_loud (replace hbk:=jd5 hbk hg8 hrr);go_loud (clear hi hg8);go_loud (obtain⟨o0,o1,o2,o3⟩:=(P.bel hbk).opt))
  | (go_at_call 42;go_loud (with_reducible refine(KPA.out _ _ (HT.out.bel (P.bel hbk).gg) hr4 hi8).mono ?_);go_loud (rintro e9 w9 ⟨hi9,hg9,vn,rfl,hn9⟩);go_loud (have hz8:=hbk.size);go_loud (have hz9:=(jd5 hbk hg9 hrr).size);go_loud (obtain⟨an,cn,rfl⟩:=jb4 hn9);go_loud (have hbx:=bal (Below.refl w9.heap.size w9) (.cells #[.string bt_,.int .i64 bs,.slice an nn cn] 33));go_loud (replace hn9:=jb2 hn9 hbx);go_loud (replace hbk:=bal (jd5 hbk hg9 hrr) (.cells #[.string bt_,.int .i64 bs,.slice an nn cn] 33));go_loud (replace hi9:=hi9.bel hbx);go_loud (clear hi8 hg9 hbx o0 o1 o2 o3))
  | (go_at_call 43;go_loud (with_reducible refine(KFL.out _ _ hi9).mono ?_);go_loud (rintro e10 w10 ⟨rfl,hb10⟩);go_loud (have hz:=(bt hbk hb10).size);go_loud (replace hbk:=bal (bt hbk hb10) (.cells #[.int .i64 ye,.int .i64 ya] 54));go_loud (have j0:=(Live.fresh w10 #[.int .i64 ye,.int .i64 ya] 54 0 _ rfl).1);go_loud (have j1:=(Live.fresh w10 #[.int .i64 ye,.int .i64 ya] 54 1 _ rfl).1))
  | (go_at_call 16;go_loud (with_reducible refine(KB3.out _).mono ?_);go_loud (rintro e11 w11 ⟨rfl,hb11⟩);go_loud (replace hbk:=bt hbk hb11);go_loud (clear j0 j1 hi9);go_loud (have y1:=kc hbk HY1.out))
  | (go_at_call 31;go_loud (with_reducible refine(KX.out _).mono ?_);go_loud (rintro e12 w12 ⟨rfl,rfl⟩))
  | fail)
 have hx9:Below (w9.alloc (.cells #[.string bt_,.int .i64 bs,.slice an nn cn] 33)).heap.size (w9.alloc (.cells #[.string bt_,.int .i64 bs,.slice an nn cn] 33)) w11:=bt (bal hb10 _) hb11;obtain⟨b0,_⟩:=(Live.fresh w9 #[.string bt_,.int .i64 bs,.slice an nn cn] 33 0 _ rfl).keep hx9;obtain⟨b1,_⟩:=(Live.fresh w9 #[.string bt_,.int .i64 bs,.slice an nn cn] 33 1 _ rfl).keep hx9;obtain⟨b2,_⟩:=(Live.fresh w9 #[.string bt_,.int .i64 bs,.slice an nn cn] 33 2 _ rfl).keep hx9;have HN9:=Lib.hid (jb2 hn9 hx9);have hr1:=jb2 P.r1 hbk;obtain⟨g1',eg,z0,z1,z2,z3,z4,z5⟩:=jk0 hr1 HN0.out;simp only[Option.some.injEq,Addr.mk.injEq,and_true]at eg;subst eg;have hF6:=(Array.getElem?_eq_some_iff.1 P.f1).1;have hF0:=P.hF;have hg1:=(jb7 P.r1 g1 rfl).1;have hg3:=(jb7 H3 g3 rfl).1;have hw9:w6.heap.size≤w9.heap.size:=hz9;have m00a:¬g1=w.heap.size+1:=by omega
 have m00b:¬w.heap.size+1=g1:=by omega
 have m01a:¬g1=w.heap.size+1+1:=by omega
 have m01b:¬w.heap.size+1+1=g1:=by omega
 have m10a:¬g3=w.heap.size+1:=by omega
 have m10b:¬w.heap.size+1=g3:=by omega
 have m11a:¬g3=w.heap.size+1+1:=by omega
 have m11b:¬w.heap.size+1+1=g3:=by omega
 have m20a:¬w9.heap.size=w.heap.size+1:=by omega
 have m20b:¬w.heap.size+1=w9.heap.size:=by omega
 have m21a:¬w9.heap.size=w.heap.size+1+1:=by omega
 have m21b:¬w.heap.size+1+1=w9.heap.size:=by omega
 have KSA:Hid (∀wz,Below w11.heap.size w11 wz→wz.cell? ⟨g1,0,none⟩=some (.int .u8 p0.fl.toNat)∧wz.cell? ⟨g1,1,none⟩=some (.int .u64 p0.po)∧wz.cell? ⟨g1,2,none⟩=some (.int .u32 p0.se)∧wz.cell? ⟨g1,3,none⟩=some (.int .u32 p0.nu)∧wz.cell? ⟨g1,4,none⟩=some (.string p0.la)∧wz.cell? ⟨g1,5,none⟩=some (.string p0.bo)∧wz.cell? ⟨w9.heap.size,0,none⟩=some (.string bt_)∧wz.cell? ⟨w9.heap.size,1,none⟩=some (.int .i64 bs)∧wz.cell? ⟨w9.heap.size,2,none⟩=some (.slice an nn cn)∧wz.cell? ⟨g3,1,none⟩=some (.string (toB pb))):=Lib.hid fun wz hb=>⟨kc hb z0,kc hb z1,kc hb z2,kc hb z3,kc hb z4,kc hb z5,kc hb b0,kc hb b1,kc hb b2,kc hb y1⟩
 have hnn2:=HN.out;rw[List.length_cons]at hnn2;have kcl:∀wz,Below w11.heap.size w11 wz→Calls Tryz.prog 44 #[.slice (if c1=k+1 then some ⟨g1,0,none⟩else some ⟨g1,(k+1)*6,none⟩) (n-(k+1)) (c1-(k+1))] wz fun e w'=>∃v',e=.returned v'∧w'.ownsRow wz.heap.size 27 6 v' (n-(k+1)) (gcells (r.drop k))∧Below wz.heap.size wz w':=by
  intro wz hz;obtain⟨gg,cc,hv,_,hcap,_,hc⟩:=jn7 hr1 HN0.out;rw[List.length_cons]at hcap;simp only[Value.slice.injEq,Option.some.injEq,Addr.mk.injEq,and_true]at hv;obtain⟨rfl,_,rfl⟩:=hv;have hdl:(r.drop k).length=n-(k+1):=by rw[List.length_drop];omega
  split
  · have hnil:r.drop k = []:=List.eq_nil_of_length_eq_zero (by omega)
    exact kw0 g1 0 _ _ (r.drop k) wz hdl (fun j x hj=>by rw[hnil]at hj;simp[gcells]at hj) (by omega)
  · refine kw0 g1 ((k+1)*6) _ _ (r.drop k) wz hdl (fun j x hj=>?_) (by omega)
    have h2:=jw6 (p0::r) (k+1);rw[List.drop_succ_cons]at h2;rw[h2,List.getElem?_drop]at hj;have:=kc hz (hc _ _ hj);rw[Nat.zero_add]at this;exact this
 have KCL:=Lib.hid kcl;have HDL:Hid ((r.drop k).length=n-(k+1)):=Lib.hid (by rw[List.length_drop];omega);have hbk2:=hbk.size;have HB3:Hid (w.heap.size+3≤w8.heap.size):=Lib.hid (by omega);have HB4:Hid (w.heap.size+3≤w11.heap.size):=Lib.hid (by omega);clear kcl hnn2 hbk2;clear hF6 hF0 hg1 hg3 hw9 hz hz8 hz9 hz4 hb10 hb11 hn9 hr1;have hbq:=Below.refl w11.heap.size w11;have m1n:0<n:=by omega
 by_cases hce:c1=k+1
 · subst hce
   have kcl2:=KCL.out;simp only[if_true,Nat.sub_self]at kcl2;clear KCL;have KCL:=Lib.hid kcl2;clear kcl2
   go_region_held3 (fun w'=>w'.cell? ⟨g1,0,none⟩=some (.int .u8 p0.fl.toNat)∧w'.cell? ⟨g1,1,none⟩=some (.int .u64 p0.po)∧w'.cell? ⟨g1,2,none⟩=some (.int .u32 p0.se)∧w'.cell? ⟨g1,3,none⟩=some (.int .u32 p0.nu)∧w'.cell? ⟨g1,4,none⟩=some (.string p0.la)∧w'.cell? ⟨g1,5,none⟩=some (.string p0.bo)∧w'.cell? ⟨w9.heap.size,0,none⟩=some (.string bt_)∧w'.cell? ⟨w9.heap.size,1,none⟩=some (.int .i64 bs)∧w'.cell? ⟨w9.heap.size,2,none⟩=some (.slice an nn cn)∧w'.cell? ⟨g3,1,none⟩=some (.string (toB pb)))
    (first|(with_reducible refine KSA.out _ ?_;with_reducible first|exact hbq|exact hbq.drew)|go_keep)
    (first|(go_at_call 44;go_loud (with_reducible refine(KCL.out _ ?_).mono ?_);(with_reducible first|exact hbq|exact hbq.drew);go_loud (rintro e12 w12 ⟨v12,rfl,ho12,hb12⟩);go_loud (obtain⟨av12,cv12,rfl⟩:=jb4 ho12);go_loud (replace hbq:=bt hbq.drew hb12);go_loud (obtain⟨q0,q0'⟩:=(P.bel (bt hbk hbq)).res 0 _ rfl);go_loud (obtain⟨q1,q1'⟩:=(P.bel (bt hbk hbq)).res 1 _ rfl);go_loud (obtain⟨q2,q2'⟩:=(P.bel (bt hbk hbq)).res 2 _ rfl);go_loud (obtain⟨q3,q3'⟩:=(P.bel (bt hbk hbq)).res 3 _ rfl);go_loud (obtain⟨q4,q4'⟩:=(P.bel (bt hbk hbq)).res 4 _ rfl);go_loud (obtain⟨q5,q5'⟩:=(P.bel (bt hbk hbq)).res 5 _ rfl);go_loud (obtain⟨q6,q6'⟩:=(P.bel (bt hbk hbq)).res 6 _ rfl);go_loud (obtain⟨q7,q7'⟩:=(P.bel (bt hbk hbq)).res 7 _ rfl);go_loud (obtain⟨q8,q8'⟩:=(P.bel (bt hbk hbq)).res 8 _ rfl);go_loud (obtain⟨q9,q9'⟩:=(P.bel (bt hbk hbq)).res 9 _ rfl);go_loud (obtain⟨q10,q10'⟩:=(P.bel (bt hbk hbq)).res 10 _ rfl);go_loud (obtain⟨q11,q11',q12,q12'⟩:=(P.bel (bt hbk hbq)).ret)))
   all_goals
    go_wp2_with fail
    refine bodyPost_ret (v:=.tuple #[.agg #[.int .u8 p0.fl.toNat,.int .u64 p0.po,.int .u32 p0.se,.int .u32 p0.nu,.string p0.la,.string p0.bo,.string bt_,.int .i64 bs,.slice an nn cn,.string (toB pb),.slice av12 (n-(k+1)) cv12],.agg #[.int .i64 0,.int .i64 0]]) (by simp[results,Tryz.results14,go_sem,q0,q0',q1,q1',q2,q2',q3,q3',q4,q4',q5,q5',q6,q6',q7,q7',q8,q8',q9,q9',q10,q10',q11,q11',q12,q12']) rfl ?_;refine⟨kz0 (P.bel (bt hbk hbq)).gg _ _ _ _ _ _ _ _ _ _ _ _ _,.slice an nn cn,.slice av12 (n-(k+1)) cv12,rfl,?_,?_⟩
    · show World.ownsRow _ _ _ _ _ ns.length (ntcells ns)
      rw[←HNN.out];exact kf8 (jc3 (jb2 HN9.out hbq) HB3.out) _ _ _ _ _ _ _ _ _ _ _ _ _
    · show World.ownsRow _ _ _ _ _ (r.drop k).length (gcells (r.drop k))
      rw[HDL.out];exact kf8 (jc3 ho12 HB4.out) _ _ _ _ _ _ _ _ _ _ _ _ _
 · have kcl2:=KCL.out
   simp only[if_neg hce]at kcl2;clear KCL;have KCL:=Lib.hid kcl2;clear kcl2
   go_region_held3 (fun w'=>w'.cell? ⟨g1,0,none⟩=some (.int .u8 p0.fl.toNat)∧w'.cell? ⟨g1,1,none⟩=some (.int .u64 p0.po)∧w'.cell? ⟨g1,2,none⟩=some (.int .u32 p0.se)∧w'.cell? ⟨g1,3,none⟩=some (.int .u32 p0.nu)∧w'.cell? ⟨g1,4,none⟩=some (.string p0.la)∧w'.cell? ⟨g1,5,none⟩=some (.string p0.bo)∧w'.cell? ⟨w9.heap.size,0,none⟩=some (.string bt_)∧w'.cell? ⟨w9.heap.size,1,none⟩=some (.int .i64 bs)∧w'.cell? ⟨w9.heap.size,2,none⟩=some (.slice an nn cn)∧w'.cell? ⟨g3,1,none⟩=some (.string (toB pb)))
    (first|(with_reducible refine KSA.out _ ?_;with_reducible first|exact hbq|exact hbq.drew)|go_keep)
    (first|(go_at_call 44;go_loud (with_reducible refine(KCL.out _ ?_).mono ?_);(with_reducible first|exact hbq|exact hbq.drew);go_loud (rintro e12 w12 ⟨v12,rfl,ho12,hb12⟩);go_loud (obtain⟨av12,cv12,rfl⟩:=jb4 ho12);go_loud (replace hbq:=bt hbq.drew hb12);go_loud (obtain⟨q0,q0'⟩:=(P.bel (bt hbk hbq)).res 0 _ rfl);go_loud (obtain⟨q1,q1'⟩:=(P.bel (bt hbk hbq)).res 1 _ rfl);go_loud (obtain⟨q2,q2'⟩:=(P.bel (bt hbk hbq)).res 2 _ rfl);go_loud (obtain⟨q3,q3'⟩:=(P.bel (bt hbk hbq)).res 3 _ rfl);go_loud (obtain⟨q4,q4'⟩:=(P.bel (bt hbk hbq)).res 4 _ rfl);go_loud (obtain⟨q5,q5'⟩:=(P.bel (bt hbk hbq)).res 5 _ rfl);go_loud (obtain⟨q6,q6'⟩:=(P.bel (bt hbk hbq)).res 6 _ rfl);go_loud (obtain⟨q7,q7'⟩:=(P.bel (bt hbk hbq)).res 7 _ rfl);go_loud (obtain⟨q8,q8'⟩:=(P.bel (bt hbk hbq)).res 8 _ rfl);go_loud (obtain⟨q9,q9'⟩:=(P.bel (bt hbk hbq)).res 9 _ rfl);go_loud (obtain⟨q10,q10'⟩:=(P.bel (bt hbk hbq)).res 10 _ rfl);go_loud (obtain⟨q11,q11',q12,q12'⟩:=(P.bel (bt hbk hbq)).ret)))
   all_goals
    go_wp2_with fail
    refine bodyPost_ret (v:=.tuple #[.agg #[.int .u8 p0.fl.toNat,.int .u64 p0.po,.int .u32 p0.se,.int .u32 p0.nu,.string p0.la,.string p0.bo,.string bt_,.int .i64 bs,.slice an nn cn,.string (toB pb),.slice av12 (n-(k+1)) cv12],.agg #[.int .i64 0,.int .i64 0]]) (by simp[results,Tryz.results14,go_sem,q0,q0',q1,q1',q2,q2',q3,q3',q4,q4',q5,q5',q6,q6',q7,q7',q8,q8',q9,q9',q10,q10',q11,q11',q12,q12']) rfl ?_;refine⟨kz0 (P.bel (bt hbk hbq)).gg _ _ _ _ _ _ _ _ _ _ _ _ _,.slice an nn cn,.slice av12 (n-(k+1)) cv12,rfl,?_,?_⟩
    · show World.ownsRow _ _ _ _ _ ns.length (ntcells ns)
      rw[←HNN.out];exact kf8 (jc3 (jb2 HN9.out hbq) HB3.out) _ _ _ _ _ _ _ _ _ _ _ _ _
    · show World.ownsRow _ _ _ _ _ (r.drop k).length (gcells (r.drop k))
      rw[HDL.out];exact kf8 (jc3 ho12 HB4.out) _ _ _ _ _ _ _ _ _ _ _ _ _
theorem kt7(s:ByteArray)(kd fb bu:Int)(g:Bool)(w:World)(hT:TW w)(hs:s.size≤1048576):
 Calls Tryz.prog 14 #[.string s,.agg #[.int .i64 kd,.int .i64 fb,.bool g,.int .i64 bu]] w (OParsePost (oparM crcN (RM fb g) s) w):=by
 unfold oparM;by_cases hb:(pagesM crcN s).2.1=0
 · rw[if_neg (fun h=>h hb)]
   cases hl:(pagesM crcN s).1.1 with
   | nil=>exact vx3 s kd fb bu g w hT hs hb hl
   | cons p0 r=>
    simp only;cases hi:strayF p0.se (p0::r) 0 with
    | some i=>exact vx2 s kd fb bu g w hT hs hb p0 r hl i hi
    | none=>
     simp only;cases ho:opensG p0 with
     | false=>
      rw[if_pos rfl];exact vx1 s kd fb bu g w hT hs hb p0 r hl hi ho
     | true=>
      rw[if_neg (by decide)];unfold tailM;cases hp:pairM s.size r (pagesM crcN s).1.2 with
      | inr A=>exact vx0 s kd fb bu g w hT hs hb p0 r hl hi ho A hp
      | inl q=>
       obtain⟨ps,k⟩:=q;obtain⟨⟨pa,pb,rfl⟩,_⟩:=kg5 hp;simp only[List.getD_cons_zero,List.getD_cons_succ];by_cases he:(notesO (RM fb g) pa).1.e=0
       · rw[if_neg (fun h=>h he)]
         cases hpre:preM pb (vorb 5)with
         | false=>
          rw[if_pos rfl];exact vw8 s kd fb bu g w hT hs hb p0 r hl hi ho pa pb k hp he hpre
         | true=>
          rw[if_neg (by decide)];exact vw7 s kd fb bu g w hT hs hb p0 r hl hi ho pa pb k hp he hpre
       · rw[if_pos he]
         exact vw9 s kd fb bu g w hT hs hb p0 r hl hi ho pa pb k hp he
 · rw[if_pos hb]
   exact vx4 s kd fb bu g w hT hs hb
end Go.Proofs.YtagjkmkmphamoaaGreatDoor
