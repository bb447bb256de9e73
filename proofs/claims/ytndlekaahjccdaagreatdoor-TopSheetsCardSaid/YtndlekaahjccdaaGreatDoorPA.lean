/- PA -/
import Derived.Test.YtndlekaahjccdaaGreatDoorP9
set_option linter.all false
set_option maxRecDepth 100000
set_option maxHeartbeats 40000000
set_option maxHeartbeats 2000000
namespace Go.Proofs.YtndlekaahjccdaaGreatDoor
open Go.RowKit Go.Proofs.Tryz
def idxF:List Int->Int->Nat->Int
 | [],_,_=>-1
 | a::l,p,k=>if p=a then k else idxF l p (k+1)
theorem yJn(l:List Int)(p:Int)(k:Nat) : -1<=idxF l p k/\idxF l p k<k+l.length/\(0<=idxF l p k->(k:Int)<=idxF l p k):=by
 induction l generalizing k with
 | nil=>simp[idxF];omega
 | cons a l ih=>
  have:=ih (k+1);simp only[idxF,List.length_cons];split<;>omega
theorem y7D(v:Value)(l:List Int)(p:Int)(w:World)(H7:Row w v l.length (icells l))(hl:l.length<=1073741824):
 Calls prog 404 #[v,.int .i32 p] w fun e w'=>e=.returned (.int .i64 (idxF l p 0))/\w=w':=by
 obtain⟨av,cap,rfl,hc⟩:=H7;obtain⟨R,hR⟩:∃R,R=idxF l p 0:=⟨_,rfl⟩;rw[<-hR];obtain⟨n,hn⟩:∃n,n=l.length:=⟨_,rfl⟩;rw[<-hn]at hl ⊢;have HR:=z7 hR;have HN:=z7 hn;have HC:=z7 hc;clear hR hn hc
 go_enter func404,ntmps404
 go_wp2_with fail
 go_loop [8] (fun i=>∃k:Nat,k<=n/\i=.int .i64 (k:Int)/\Hid (R=idxF (l.drop k) p k)) (fun i=>n-(intOf i).toNat)
 case atStart=>exact⟨0,zD,rfl,HR.out⟩
 case round=>
  obtain⟨k,hk,rfl,H6⟩:=hrel;by_cases H9:k<n
  . obtain⟨a,ha⟩:=zM l k (by rw[<-HN.out];exact H9)
    obtain⟨g,o,rfl,H8⟩:=HC.out k _ (y3F l k a ha);have e1:=H6.out;rw[drop_at l k (List.getElem?_eq_some_iff.1 ha).1,(List.getElem?_eq_some_iff.1 ha).2,idxF]at e1;by_cases H5:p=a
    . subst H5
      rw[if_pos rfl]at e1;have E1:=z7 e1;clear e1;clear H6 ha
      go_wp2_with fail
      go_ret
      exact⟨by rw[E1.out];rfl,rfl⟩
    . rw[if_neg H5]at e1
      have hb:(p==a)=false:=by simpa using H5
      have E1:=z7 e1;clear e1;clear H6 ha H5
      go_wp2_with fail
      go_round
      case rel=>exact⟨k+1,by omega,by go_num,E1.out⟩
      case measure=>simp[intOf];omega
  . have Ha:k=n:=by omega
    subst Ha;have e1:R = -1:=by rw[H6.out,List.drop_of_length_le (by rw[HN.out];exact zA)];rfl
    have E1:=z7 e1;clear e1
    go_wp2_with fail
    go_ret
    exact⟨by rw[E1.out];rfl,rfl⟩
theorem wi64(n:Int)(h0 : -9223372036854775808<=n)(h1:n<=9223372036854775807):IntKind.i64.wrap n=n:=by rw[IntKind.wrap_i64];omega
theorem wi32(n:Int)(h0 : -2147483648<=n)(h1:n<=2147483647):IntKind.i32.wrap n=n:=by simp[IntKind.wrap,IntKind.bits,IntKind.signed];omega
def RP.code(r:RP)(p:Int):Int×Bool:=match r.sg with
 | some l=>(r.fr+idxF l p 0,decide (0<=idxF l p 0))
 | none=>(r.fr+(p-r.tq),decide (r.tq<=p/\p-r.tq<r.ct))
theorem yDC(a b t p:Int)(w:World)(hG:RP.Good ⟨a,b,t,none⟩)(Hd:0<=p)(Hc:p<=1114111):
 Calls prog 386 #[.agg #[.int .i64 a,.int .i64 b,.int .i32 t,.slice none 0 0],.int .i32 p] w fun e w'=>e=.returned (.tuple #[.int .i64 (a+(p-t)),.bool (decide (t<=p/\p-t<b))])/\Below w.heap.size w w':=by
 obtain⟨g0,g1,g2,g3,g4,_⟩:=hG;simp only at g0 g1 g2 g3 g4;have Hb:IntKind.i32.wrap (p-t)=p-t:=wi32 _ (by omega) (by omega);have Ha:IntKind.i64.wrap (a+(p-t))=a+(p-t):=wi64 _ (by omega) (by omega);have H9:IntKind.i64.wrap (p-t)=p-t:=wi64 _ (by omega) (by omega);have He:=fun c t (x:Grown (w.alloc (.cells c t))) i=>x.cell_new i
 by_cases h1:t<=p
 . have H8:decide (t<=p)=true:=by simpa using h1
   have H6:decide (p-t<b)=decide (t<=p/\p-t<b):=by rw[Bool.eq_iff_iff];simp;omega
   generalize decide (t<=p/\p-t<b)=q at *
   go_enter func386,ntmps386
   go_wp2_with fail
   refine zj (by kernel_rfl) (by kernel_rfl) ?_
   repeat (first|go_big_quiet_step ((fail))|quiet_step ((fail)))
   refine wpQuiet_nil ?_;intro _ H5;obtain⟨xg,rfl⟩:=H5;have H7:=xg.bel
   go_wp2_with fail
   go_ret2
   exact⟨rfl,bt (bal (z8) _) H7⟩
 . have H8:decide (t<=p)=false:=by simpa using h1
   have H6:decide (t<=p/\p-t<b)=false:=by simp;omega
   rw[H6];clear H6
   go_enter func386,ntmps386
   go_wp2_with fail
   refine zj (by kernel_rfl) (by kernel_rfl) ?_
   repeat (first|go_big_quiet_step ((fail))|quiet_step ((fail)))
   refine wpQuiet_nil ?_;intro _ H5;obtain⟨xg,rfl⟩:=H5;have H7:=xg.bel
   go_wp2_with fail
   go_ret2
   exact⟨rfl,bt (bal (z8) _) H7⟩
theorem yDB(a b t p:Int)(g o n cp:Nat)(l:List Int)(i:Int)(w:World)(hG:0<=a/\a+b<=1048576/\(n:Int)=b)(hn:n=l.length)(hi:idxF l p 0=i)(H5:Row w (.slice (some ⟨g,o,none⟩) n cp) n (icells l)):
 Calls prog 386 #[.agg #[.int .i64 a,.int .i64 b,.int .i32 t,.slice (some ⟨g,o,none⟩) n cp],.int .i32 p] w fun e w'=>e=.returned (.tuple #[.int .i64 (a+i),.bool (decide (0<=i))])/\Below w.heap.size w w':=by
 obtain⟨i0,i1,i2⟩:=yJn l p 0;rw[hi,<-hn]at i1;rw[hi]at i0 i2;obtain⟨g0,g2,g3⟩:=hG;have k1:∀X,Calls prog 404 #[.slice (some ⟨g,o,none⟩) n cp,.int .i32 p] (w.alloc X) fun e w'=>e=.returned (.int .i64 i)/\w.alloc X=w':=fun X=>by
  have:=y7D (.slice (some ⟨g,o,none⟩) n cp) l p (w.alloc X) (by rw[<-hn];exact H5.keep ((z8).alloc (zA) X)) (by omega)
  rwa [hi]at this
 have H6:IntKind.i64.wrap (a+i)=a+i:=wi64 _ (by omega) (by omega);have K1:=z7 k1;clear k1;clear H5 hn hi
 go_enter func386,ntmps386
 go_wp2_with (go_at_call 404;refine(K1.out _).mono ?_;rintro e w1 ⟨rfl,rfl⟩)
 go_ret2
 refine⟨y57 ?_ ?_,bal (z8) _⟩
 . first|with_reducible rfl|exact H6
 . first|with_reducible rfl|simp
theorem yGH(r:RR)(p:Int)(w:World)(H8:r.Ok w)(hG:r.pl.Good)(Ha:0<=p)(H9:p<=1114111):
 Calls prog 386 #[.agg r.enc.toArray,.int .i32 p] w fun e w'=>e=.returned (.tuple #[.int .i64 (r.pl.code p).1,.bool (r.pl.code p).2])/\Below w.heap.size w w':=by
 obtain⟨a,b,t,ad,ln,cp,sg⟩:=r;cases sg with
 | none=>
  have H6:Value.slice ad ln cp=.slice none 0 0:=H8;simp only[Value.slice.injEq]at H6;obtain⟨rfl,rfl,rfl⟩:=H6;exact yDC a b t p w hG Ha H9
 | some l=>
  obtain⟨g,o,cap,cur,he,Hb,Hc,H7,H5⟩:=H8;simp only[RR.sv,Value.slice.injEq]at he;obtain⟨rfl,rfl,rfl⟩:=he;obtain⟨g0,g1,g2,g3,g4,g5⟩:=hG;exact yDB a b t p g o l.length cp l _ w ⟨g0,g2,g5 l rfl⟩ rfl rfl ⟨_,_,rfl,fun j x hj=>⟨g,o,rfl,by rw[cell_of_row _ _ _ _ _ _ H7];exact H5 j x hj⟩⟩
def revM:List RP->Int->Int×Bool
 | [],_=>(0,false)
 | r::X,p=>if(r.code p).2=true then((r.code p).1,true)else revM X p
theorem y9o(v:Value)(X:List RR)(p:Int)(B:Nat)(w:World)(hX:OwnR w B v X)(hG:∀r∈X,r.pl.Good)(hO:∀r∈X,r.Ok w)(hl:X.length<=1000)(Hf:0<=p)(He:p<=1114111):
 Calls prog 342 #[.agg #[v],.int .i32 p] w fun e w'=>e=.returned (.tuple #[.int .i64 (revM (X.map RR.pl) p).1,.bool (revM (X.map RR.pl) p).2])/\Below w.heap.size w w':=by
 obtain⟨R,hR⟩:∃R,R=revM (X.map RR.pl) p:=⟨_,rfl⟩;rw[<-hR];obtain⟨av,cv,rfl⟩:=zN hX;obtain⟨n,hn⟩:∃n,n=X.length:=⟨_,rfl⟩;rw[<-hn]at hl ⊢;have HR:=z7 hR;have HX:=z7 hX;have HG:=z7 hG;have HN:=z7 hn;have HO:=z7 hO;clear hR hX hG hn hO
 go_enter func342,ntmps342
 go_wp2_with fail
 obtain⟨W,hW⟩:∃W,W=w.alloc (.cells #[.slice av n cv] 228):=⟨_,rfl⟩;rw[<-hW];have H9:Below w.heap.size w W:=by rw[hW];exact bal (z8) _
 clear hW;have Hc:=z7 H9;clear H9
 go_loopw [13] (fun i wr=>∃(k:Nat),k<=n/\i=.int .i64 (k:Int)/\Hid (R=revM ((X.drop k).map RR.pl) p)/\Below W.heap.size W wr) (fun i _=>n-(intOf i).toNat)
 case atStart=>exact⟨0,zD,rfl,HR.out,z8⟩
 case round=>
  obtain⟨k,hk,rfl,H8,H5⟩:=hrel;have H6:Below w.heap.size w wr:=Hc.out.trans (H5.mono Hc.out.size);by_cases Hg:k<n
  . obtain⟨r,hr⟩:=zM X k (by rw[<-HN.out];exact Hg)
    obtain⟨g,cap,he,c0,c1,c2,c3⟩:=y1U (zK HX.out H6) k r hr;simp only[Value.slice.injEq]at he;obtain⟨rfl,_,rfl⟩:=he;have Hb:=HG.out r (List.mem_of_getElem? hr);have Ha:=(HO.out r (List.mem_of_getElem? hr)).keep H6;have k1:=fun X=>yGH r p (wr.alloc X) (Ha.keep ((z8).alloc (zA) X)) Hb Hf He
    have hd:=drop_at X k (List.getElem?_eq_some_iff.1 hr).1;rw[(List.getElem?_eq_some_iff.1 hr).2]at hd;have e1:=H8.out;rw[hd,List.map_cons,revM]at e1;generalize Hi:r.pl.code p=q at *;obtain⟨q1,q2⟩:=q;simp only at e1 k1;obtain⟨rf,rc,rt,ra,rl,rp,rs⟩:=r;simp only[RR.sv,RR.enc]at *;clear hr hd H8 Hb Ha Hi;by_cases hq:q2=true
    . subst hq
      rw[if_pos rfl]at e1;have E1:=z7 e1;have K1:=z7 k1;clear e1 k1
      go_wp2_with (go_at_call 386;refine(K1.out _).mono ?_;rintro e w1 ⟨rfl,H7⟩)
      go_ret2
      exact⟨by rw[E1.out];rfl,bt (bal H6 _) H7⟩
    . rw[if_neg hq]at e1
      have Hd:q2=false:=by simpa using hq
      subst Hd;have E1:=z7 e1;have K1:=z7 k1;clear e1 k1;clear hq
      go_wp2_with (go_at_call 386;refine(K1.out _).mono ?_;rintro e w1 ⟨rfl,H7⟩)
      go_roundw
      case rel=>exact⟨k+1,by omega,by go_num,E1.out,bt (bal H5 _) H7⟩
      case measure=>simp[intOf];omega
  . have Hh:k=n:=by omega
    subst Hh;have e1:R=(0,false):=by rw[H8.out,List.drop_of_length_le (by rw[HN.out];exact zA)];rfl
    have E1:=z7 e1;clear e1
    go_wp2_with fail
    go_ret2
    exact⟨by rw[E1.out];rfl,H6⟩
theorem rowZero:(Value.agg #[.int .i64 0,.int .i64 0,.int .i32 0,.slice none 0 0]).cells.size=4:=rfl
theorem yGJ(v:Value)(X:List RR)(B:Nat)(w:World)(hX:OwnR w B v X)(He:X ≠ [])(hl:X.length<=1000):
 Calls prog 379 #[v] w fun e w'=>∃v',e=.returned v'/\OwnR w' w.heap.size v' X/\Below w.heap.size w w':=by
 obtain⟨i0,hi,Hc,Hb,Ha⟩:=info_parts y5T;obtain⟨g,cap,rfl,_⟩:=y1F hX (by intro e;exact He (List.eq_nil_of_length_eq_zero e));have hc:=hX.cells (g:=g) rfl;have H5:=y0H X;have h1:∀u∈rcells X,u.oneCell'=true:=by
  intro u hu;obtain⟨r,hr,hm⟩:=List.mem_flatMap.1 hu;exact r.one u hm
 have hO:∀w':World,w'.ownsRow w.heap.size 350 4 (.slice (some ⟨w.heap.size,0,none⟩) 0 0) 0 []->True:=fun _ _=>trivial
 have H6:(w.alloc (.cells #[] 350)).ownsRow w.heap.size 350 4 (.slice (some ⟨w.heap.size,0,none⟩) 0 0) 0 []:=
  World.ownsRow_lit (base:=w.heap.size) (e:=350) (size:=4) w #[] 0 (zA) (by unfold maxLen;omega) rfl
 have H7:Below w.heap.size w (w.alloc (.cells #[] 350)):=bal (z8) _;have H9:∀j u,(rcells X)[j]?=some u->(w.alloc (.cells #[] 350)).cell? ((⟨g,0,none⟩:Addr).add j)=some u:=fun j u hj=>by
  have:=hc j u hj;have ea:(⟨g,0,none⟩:Addr).add j=⟨g,j,none⟩:=by
   by_cases h0:j=0
   . subst h0;rfl
   . simp[Addr.add,h0]
  rw[ea]at this ⊢;exact kc H7 this
 obtain⟨n,hn⟩:∃n,n=X.length:=⟨_,rfl⟩;unfold OwnR;rw[<-hn]at hl H5 ⊢;generalize rcells X=cs at *;have HC:=z7 H9;have H8:=z7 H6;have H1:=z7 h1;have HL:=z7 H5;have HN:=z7 hn;clear H9 H6 h1 H5 hn;clear hX hc hO
 go_enter func379,ntmps379
 have Hd:=fun w=>Lib.run_eql_slice_nil (P:=prog) w 226 350 (some ⟨g,0,none⟩) n cap 0 0 underlying226
 go_wp2_with (at_builtin;(refine wpList_append_own _ rfl _ _ 226 rfl w.heap.size 350 i0 (.agg #[.int .i64 0,.int .i64 0,.int .i32 0,.slice none 0 0]) 4 48 underlying226 hi Hc Hb Ha rowZero (by decide) (.slice (some ⟨w.heap.size,0,none⟩) 0 0) 0 [] rfl H8.out ⟨g,0,none⟩ n cap cs rfl HL.out HC.out H1.out (by unfold maxLen;omega) (by omega) H7.size ?_;intro v' w1 h2 h3 _))
 have hb:Below w.heap.size w w1:=H7.grown h3 H7.size (by intro k hk;simp[Value.ownBlock]at hk;omega);rw[Nat.zero_add,List.nil_append]at h2
 go_wp2_with fail
 go_ret
 exact⟨v',rfl,h2,hb⟩
def RP.part(r:RP)(a e:Int):RP:=match r.sg with
 | none=>⟨a,e-a,r.tq+(a-r.fr),none⟩
 | some l=>⟨a,e-a,0,some ((l.drop (a-r.fr).toNat).take (e-a).toNat)⟩
def PartPost(r:RP)(w:World)(e:Ending)(w':World):Prop:=∃q:RR,e=.returned (.agg q.enc.toArray)/\q.pl=r/\q.Ok w'/\Below w.heap.size w w'
theorem yEc(a b t x y:Int)(w:World)(hG:RP.Good ⟨a,b,t,none⟩)(h0:a<=x)(h1:x<y)(h2:y<=a+b):
 Calls prog 380 #[.agg #[.int .i64 a,.int .i64 b,.int .i32 t,.slice none 0 0],.int .i64 x,.int .i64 y] w (PartPost ⟨x,y-x,t+(x-a),none⟩ w):=by
 obtain⟨g0,g1,g2,g3,g4,_⟩:=hG;simp only at g0 g1 g2 g3 g4;have k1:=fun w=>y54 ⟨a,b,t,none,0,0,none⟩ x w rfl h0 (by show x<a+b;omega) g0 (by show a+b<=1073741824;omega) g3 (by show t+b<=1073741824;omega) (by intro l hl;cases hl)
 simp only[RR.enc,RR.sv,RR.sign]at k1;have Ha:IntKind.i64.wrap (y-x)=y-x:=wi64 _ (by omega) (by omega);have H6:∀e w',(∃q:RR,e=.returned (.agg q.enc.toArray)/\q.pl=⟨x,y-x,t+(x-a),none⟩/\q.Ok w'/\Below w.heap.size w w')->PartPost ⟨x,y-x,t+(x-a),none⟩ w e w':=fun _ _ h=>h
 obtain⟨W,hW⟩:∃W,W=((w.alloc (.cells #[.int .i64 a,.int .i64 b,.int .i32 t,.slice none 0 0] 350)).alloc (.cells #[.int .i64 0,.int .i64 0,.int .i32 0,.slice none 0 0] 350)).alloc (.cells #[.int .i64 x,.int .i64 (y-x),.int .i32 0,.slice none 0 0] 350):=⟨_,rfl⟩;have s1:(w.alloc (.cells #[.int .i64 a,.int .i64 b,.int .i32 t,.slice none 0 0] 350)).heap.size=w.heap.size+1:=World.size_alloc _ _;have s2:((w.alloc (.cells #[.int .i64 a,.int .i64 b,.int .i32 t,.slice none 0 0] 350)).alloc (.cells #[.int .i64 0,.int .i64 0,.int .i32 0,.slice none 0 0] 350)).heap.size=w.heap.size+2:=by rw[World.size_alloc,s1]
 have m0:Live W (w.heap.size+1) 0 (.int .i64 0):=by rw[hW,<-s1];exact(Live.fresh _ _ _ 0 _ rfl).alloc _
 have m1:Live W (w.heap.size+1) 1 (.int .i64 0):=by rw[hW,<-s1];exact(Live.fresh _ _ _ 1 _ rfl).alloc _
 have m2:Live W (w.heap.size+1) 2 (.int .i32 0):=by rw[hW,<-s1];exact(Live.fresh _ _ _ 2 _ rfl).alloc _
 have m3:Live W (w.heap.size+1) 3 (.slice none 0 0):=by rw[hW,<-s1];exact(Live.fresh _ _ _ 3 _ rfl).alloc _
 have n0:Live W (w.heap.size+2) 0 (.int .i64 x):=by rw[hW,<-s2];exact Live.fresh _ _ _ 0 _ rfl
 have n1:Live W (w.heap.size+2) 1 (.int .i64 (y-x)):=by rw[hW,<-s2];exact Live.fresh _ _ _ 1 _ rfl
 have n2:Live W (w.heap.size+2) 2 (.int .i32 0):=by rw[hW,<-s2];exact Live.fresh _ _ _ 2 _ rfl
 have n3:Live W (w.heap.size+2) 3 (.slice none 0 0):=by rw[hW,<-s2];exact Live.fresh _ _ _ 3 _ rfl
 have H7:Below w.heap.size w W:=by rw[hW];exact bal (bal (bal (z8) _) _) _
 have HW:=z7 hW;have HF:=z7 H6;have K1:=z7 k1;have M0:=z7 m0;have M1:=z7 m1;have M2:=z7 m2;have M3:=z7 m3;have N0:=z7 n0;have N1:=z7 n1;have N2:=z7 n2;have N3:=z7 n3;have H8:=z7 H7;clear hW H6 k1 m0 m1 m2 m3 n0 n1 n2 n3 H7;clear s1 s2
 go_enter func380,ntmps380
 go_wp2_with fail
 rw[<-HW.out];refine(K1.out _).mono ?_;rintro e w1 ⟨rfl,H5⟩;obtain⟨a0,b0⟩:=M0.out.keep H5;obtain⟨a1,b1⟩:=M1.out.keep H5;obtain⟨a2,b2⟩:=M2.out.keep H5;obtain⟨a3,b3⟩:=M3.out.keep H5;obtain⟨c0,d0⟩:=N0.out.keep H5;obtain⟨c1,d1⟩:=N1.out.keep H5;obtain⟨c2,d2⟩:=N2.out.keep H5;obtain⟨c3,d3⟩:=N3.out.keep H5;have H9:=H8.out.trans (H5.mono H8.out.size)
 go_wp2_with fail
 refine bodyPost_ret (v:=.agg #[.int .i64 x,.int .i64 (y-x),.int .i32 (t+(x-a)),.slice none 0 0]) (by simp[results,results380,go_sem,a0,a1,a2,a3,b0,b1,b2,b3,c0,c1,c2,c3,d0,d1,d2,d3]) rfl ?_;exact HF.out _ _ ⟨⟨x,y-x,t+(x-a),none,0,0,none⟩,rfl,rfl,rfl,by repeat (first|exact H9|refine Below.setCell ?_ (show w.heap.size<=_ from by simp only;omega) _)⟩
theorem yEa(a b t x y:Int)(g o n cp:Nat)(l:List Int)(cur:Array Value)(w:World)(hG:RP.Good ⟨a,b,t,some l⟩)(hn:n=l.length)(Hg:n<=cp)(Hd:cp<=maxLen)(H6:w.heap[g]?=some (.cells cur 21 (0,0)))(H9:∀(j:Nat) (x:Value),(icells l)[j]?=some x->cur[o+j]?=some x)(h0:a<=x)(h1:x<y)(h2:y<=a+b):
 Calls prog 380 #[.agg #[.int .i64 a,.int .i64 b,.int .i32 t,.slice (some ⟨g,o,none⟩) n cp],.int .i64 x,.int .i64 y] w (PartPost ⟨x,y-x,0,some ((l.drop (x-a).toNat).take (y-x).toNat)⟩ w):=by
 obtain⟨g0,g1,g2,g3,g4,g5⟩:=hG;simp only at g0 g1 g2 g3 g4;have g6:=g5 l rfl;simp only at g6;rw[<-hn]at g6;have Hb:IntKind.i64.wrap (y-x)=y-x:=wi64 _ (by omega) (by omega);have H5:∀e w',(∃q:RR,e=.returned (.agg q.enc.toArray)/\q.pl=⟨x,y-x,0,some ((l.drop (x-a).toNat).take (y-x).toNat)⟩/\q.Ok w'/\Below w.heap.size w w')->PartPost ⟨x,y-x,0,some ((l.drop (x-a).toNat).take (y-x).toNat)⟩ w e w':=fun _ _ h=>h
 obtain⟨W,hW⟩:∃W,W=((w.alloc (.cells #[.int .i64 a,.int .i64 b,.int .i32 t,.slice (some ⟨g,o,none⟩) n cp] 350)).alloc (.cells #[.int .i64 0,.int .i64 0,.int .i32 0,.slice none 0 0] 350)).alloc (.cells #[.int .i64 x,.int .i64 (y-x),.int .i32 0,.slice none 0 0] 350):=⟨_,rfl⟩;have s1:(w.alloc (.cells #[.int .i64 a,.int .i64 b,.int .i32 t,.slice (some ⟨g,o,none⟩) n cp] 350)).heap.size=w.heap.size+1:=World.size_alloc _ _;have s2:((w.alloc (.cells #[.int .i64 a,.int .i64 b,.int .i32 t,.slice (some ⟨g,o,none⟩) n cp] 350)).alloc (.cells #[.int .i64 0,.int .i64 0,.int .i32 0,.slice none 0 0] 350)).heap.size=w.heap.size+2:=by rw[World.size_alloc,s1]
 have Ha:Below w.heap.size w W:=by rw[hW];exact bal (bal (bal (z8) _) _) _
 obtain⟨k,hk⟩:∃k:Nat,x-a=(k:Int):=⟨(x-a).toNat,by omega⟩;obtain⟨m,hm⟩:∃m:Nat,y-x=(m:Int):=⟨(y-x).toNat,by omega⟩;have Hh:k+m<=n:=by omega
 obtain rfl:x=a+k:=by omega
 obtain rfl:y=a+k+m:=by omega
 have e1:a+(k:Int)-a=k:=by omega
 have e2:a+(k:Int)+m-a=((k+m:Nat):Int):=by omega
 have e3:a+(k:Int)+m-(a+k)=m:=by omega
 have e4:((k+m:Nat):Int)-(k:Int)=m:=by omega
 have Hf:IntKind.i64.wrap (a+(k:Int)-a)=k:=by rw[e1];exact wi64 _ (by omega) (by omega)
 rw[e3]at Hb;unfold maxLen at Hd;have HF:=z7 H5;have Hi:=z7 Ha;have HN:=z7 hn;have H7:=z7 H6;have He:=z7 H9;have G6:=z7 g6;clear H5 Ha hn H6 H9 g6;clear hW g5 hk hm;clear s1 s2
 go_enter func380,ntmps380
 go_wp2_with fail
 refine bodyPost_ret (v:=.agg #[.int .i64 (a+k),.int .i64 m,.int .i32 0,.slice (some ⟨g,o+k,none⟩) m (cp-k)]) (by simp[results,results380,go_sem]) rfl ?_;refine HF.out _ _ ⟨⟨a+k,a+k+m-(a+k),0,some ⟨g,o+k,none⟩,m,cp-k,some ((l.drop (a+k-a).toNat).take (a+k+m-(a+k)).toNat)⟩,by simp only[RR.enc,RR.sv];rw[e3],rfl,?_,bal (bal (bal (z8) _) _) _⟩;have H8:((l.drop (a+k-a).toNat).take (a+k+m-(a+k)).toNat).length=m:=by
  rw[e1,e3,Int.toNat_natCast,Int.toNat_natCast,List.length_take,List.length_drop,<-HN.out];omega
 refine⟨g,o+k,cp-k,cur,by rw[H8];rfl,by rw[H8];omega,by unfold maxLen;omega,?_,fun j x hj=>?_⟩
 . have Hc:=(Array.getElem?_eq_some_iff.1 H7.out).1
   exact((bal (bal (bal (z8) _) _) _:Below w.heap.size w _).block g Hc).trans H7.out
 . rw[Nat.add_assoc]
   refine He.out (k+j) x ?_;rw[e1,e3,Int.toNat_natCast,Int.toNat_natCast]at hj;unfold icells at *;rw[List.getElem?_map]at *;rw[List.getElem?_take,List.getElem?_drop]at hj;split at hj
   . exact hj
   . cases hj
theorem yHO(r:RR)(x y:Int)(w:World)(H8:r.Ok w)(hG:r.pl.Good)(h0:r.fr<=x)(h1:x<y)(h2:y<=r.fin):
 Calls prog 380 #[.agg r.enc.toArray,.int .i64 x,.int .i64 y] w (PartPost (r.pl.part x y) w):=by
 obtain⟨a,b,t,ad,ln,cp,sg⟩:=r;cases sg with
 | none=>
  have H6:Value.slice ad ln cp=.slice none 0 0:=H8;simp only[Value.slice.injEq]at H6;obtain⟨rfl,rfl,rfl⟩:=H6;exact yEc a b t x y w hG h0 h1 h2
 | some l=>
  obtain⟨g,o,cap,cur,he,H9,Ha,H7,H5⟩:=H8;simp only[RR.sv,Value.slice.injEq]at he;obtain⟨rfl,rfl,rfl⟩:=he;exact yEa a b t x y g o l.length cp l cur w hG rfl H9 Ha H7 H5 h0 h1 h2
