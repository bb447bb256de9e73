/- Pz37 -/
import Derived.Test.YtndlekaahjccdaaGreatDoorPz36
set_option linter.all false
set_option maxRecDepth 100000
set_option maxHeartbeats 40000000
namespace Go.Proofs.YtndlekaahjccdaaGreatDoor
open Go Go.Rf Go.RowKit Go.Proofs.Tryz
theorem yFn(V:ByteArray)(m:Nat)(h:V.size<=m):Lib.splitB coB 0 m V=Lib.splitB coB 0 (Lib.countB V coB) V:=y36 V.size m V zA (zE (y0k V) h)
theorem y8N(b:ByteArray)(w:World)(hG:GW w)(hs:b.size<=1000):Calls prog 17 #[.string b] w (RefR (ssaM b) w):=by
 have HL:Hid ((bl b).length=b.size):=zJ b;obtain⟨L,hL⟩:∃L,L=lnF (bl b) 0:=⟨_,rfl⟩;have k1:=y2K b w (by omega);have Km:=y1a b;obtain⟨R,hR⟩:∃R,R=ssaM b:=⟨_,rfl⟩;rw[<-hR];rw[<-hL]at k1 Km;unfold ssaM at hR;have K1:=z7 k1;have HX:=z7 hR;have Ks:=z7 hL;clear k1 hR hL hG
 go_enter func17,ntmps17
 go_wp2_with (go_at_call 23;(with_reducible refine(K1.out).mono ?_);rintro e w1 ⟨v,rfl,H8,kV⟩;obtain⟨a1,c1,rfl⟩:=zN H8)
 have HR:=z7 (y01 H8);have Hh:=z7 kV;clear H8 kV
 go_loopw [4,5,6,8] (fun v fv ev iv wr=>∃(k a:Nat) (st:Sc) (A:List Pc),ev=.bool st.ev/\iv=.int .i64 (k:Int)/\a<=b.size/\Hid (L.drop k=lnF (bl b) a)/\Hid (R=outP (walkS ssaS b st A (lnF (bl b) a)))/\Hid (Two w1.heap.size wr v A fv (fsL st))/\(fsL st).length<=1001/\Hid (Below w1.heap.size w1 wr)/\A.length<=3*a) (fun _ _ _ iv _=>L.length-(intOf iv).toNat)
 case atStart=>exact⟨0,0,⟨false,none⟩,[],rfl,rfl,zD,Ks,HX,z7 ⟨World.ownsRow_nil _ _ _ _,World.ownsRow_nil _ _ _ _⟩,by decide,z7 z8,zD⟩
 case round=>
  obtain⟨k,a,st,A,rfl,rfl,Kk,HD,HA,HT,Hz,HB,gi⟩:=hrel;by_cases kR:a<b.size
  . obtain⟨E,hE⟩:∃E,E=nxE (bl b) a:=⟨_,rfl⟩
    obtain⟨D,hD⟩:∃D,D=nxB (bl b) E:=⟨_,rfl⟩;have Hb:=zq (bl b) a (by rw[HL.out];exact kR);have e1:a<=E:=by rw[hE];exact y20 _ _
    have e2:E<=b.size:=by rw[hE,<-HL.out];exact y2g _ _ (by rw[HL.out];exact Kk)
    have e3:E<=D:=by rw[hD];exact y3C _ _
    have e4:D<=b.size:=by rw[hD,<-HL.out];exact y41 _ _ (by rw[HL.out];exact e2)
    have e5:a<D:=by rw[hD,hE];exact y5J _ _ (by rw[HL.out];exact kR)
    rw[<-hE,<-hD]at Hb;obtain⟨hp,hd,Ky⟩:=y3L (HD.out.trans Hb);have Ha:=HA.out;rw[Hb]at Ha;unfold walkS at Ha;obtain⟨g,o,c',e,_⟩:=y0X HR.out _ _ (y0J b L k _ hp 0 _ rfl);simp only[Value.slice.injEq]at e;obtain⟨rfl,_,rfl⟩:=e;have hw:∀w' (h:Below w1.heap.size w1 w'),_:=fun w' h=>y1V (HR.out.keep h) k (a,E,D) hp
    obtain⟨S,hS⟩:∃S,S=b.extract a E:=⟨_,rfl⟩;have kW:S.size=E-a:=by rw[hS,zG];omega
    have kz:=y7U b E D e3 e4;obtain⟨N,hN⟩:∃N,N=b.extract E D:=⟨_,rfl⟩;have gf:N.size=D-E:=by rw[hN,zG];omega
    simp only at hw;rw[<-hN]at kz;rw[<-hS]at Ha;simp only[<-hS,<-hN]at hw;rw[<-hN,<-kz]at Ha;have HW:=z7 hw;have gj:=z7 (Hh.out.trans (HB.out.mono Hh.out.size));obtain⟨p0,p1,p2⟩:=HW.out wr HB.out;have z1:=HB.out.size;have Ke:=z7 hd;obtain⟨va,vc,rfl⟩:=zN HT.out.o;obtain⟨fa,fc,rfl⟩:=zN HT.out.f;have Kw:A.length<1000000:=by omega
    have Kv:∀x:Pc,(A ++ [x]).length<1000000:=fun x=>by rw[zH];simp;omega
    clear hw hp hd Hb kz hN hS hE hD;obtain⟨n,hn⟩:∃n,n=keN (bl S):=⟨_,rfl⟩;have Kh:n≠0->n+2<=S.size:=fun h=>by rw[hn]at h ⊢;have:=yBd _ h;rwa [zJ]at this
    have kk:=fun w'=>yHE S w' (by omega)
    rw[<-hn]at kk;have KK:=z7 kk;obtain⟨V,hV⟩:∃V,V=ssaS st S:=⟨_,rfl⟩;rw[<-hV]at Ha;have kK:=z7 Ha;have HN:=z7 hn;have kZ:=z7 hV;have gd:S.size<=1000:=by omega
    have Ko:=z7 kW;clear kk Ha hn hV kW
    go_upto_if 31 with(go_at_call 30;refine(KK.out _).mono ?_;rintro e w2 ⟨rfl,kD⟩;have Hf:=HB.out.trans (kD.mono HB.out.size);have T2:=HT.out.bel kD;obtain⟨r0,r1,r2⟩:=HW.out w2 Hf)
    have kx:=z7 Hf;have HQ:=z7 T2;have Hv:Hid (w1.heap.size<=w2.heap.size):=z7 Hf.size;clear kD Hf T2 p0 p1 p2
    go_cut [4,5,6] from 17 to 135 (fun v4 v5 v6 wx=>∃(st':Sc) (A':List Pc),v6=.bool st'.ev/\Hid (R=outP (walkS ssaS b st' (A'++mkL N) (lnF (bl b) D)))/\Hid (Two w1.heap.size wx v4 A' v5 (fsL st'))/\(fsL st').length<=1001/\Hid (Below w1.heap.size w1 wx)/\A'.length<=3*a+2*(E-a))
    case first=>
     have Ha:=kK.out;have hV:=kZ.out;unfold ssaS at hV;have KS:=z7 (fun w'=>yH8 S w' (by omega));have kQ:=fun(h:V=none)=>show R=.inr a by rw[Ha,h];rfl
     have Ho:=fun(st':Sc) (ps:List Pc) (h:V=some (st',ps))=>show R=outP (walkS ssaS b st' ((A++ps)++mkL N) (lnF (bl b) D)) by rw[Ha,h]
     have kT:=fun(st':Sc) (ps:List Pc) (h:V=some (st',ps))=>show(A++ps).length<=3*a+2*(E-a) by have:=y9Z st S st' ps (kZ.out.symm.trans h);have:=Ko.out;rw[zH];omega
     have Kb:=z7 kQ;have Hc:=z7 Ho;have Hn:=z7 kT;clear Ha kQ Ho kT;cases hb:bl S with
     | nil=>
      rw[hb]at hV;simp only at hV;have s0:S.size=0:=by rw[<-zJ,hb];rfl
      obtain⟨s1,s2,s3⟩:=y2d S s0;have hr:=Hc.out st [] hV;have hl:=Hn.out st [] hV;have H6:=z7 hr;rw[List.append_nil]at hl;clear hr hV hb s0;rw[s1]
      go_wp2_with fail
      go_meet
      case rel=>exact⟨st,A,rfl,by rw[List.append_nil]at H6;exact H6,HQ,Hz,kx,hl⟩
     | cons x r=>
      have s0:¬S.size=0:=by rw[<-zJ,hb];simp
      obtain⟨s1,s2,s3⟩:=y0n S s0;have kM:(bl S)[0]?=some x:=by rw[hb];rfl
      have X:∀h,S[0]'h=x:=zS S 0 x kM;have Kx:=x.toNat_lt;have i0:(0:Int)<(S.size:Int):=by omega
      have i1:(1:Int)<=(S.size:Int):=by omega
      rw[hb]at hV;simp only at hV;rw[<-hb]at hV;clear kM hb s0;rw[s1];by_cases hx:x=59\/x=33
      . rw[if_pos hx]at hV
        have H6:=z7 (Hc.out _ _ hV);have hl:=Hn.out _ _ hV;have Kf:((x.toNat:Int)==59)=true\/(((x.toNat:Int)==59)=false/\((x.toNat:Int)==33)=true):=by
         rcases hx with h|h
         . exact .inl (by rw[h];rfl)
         . exact .inr ⟨by rw[h];rfl,by rw[h];rfl⟩
        clear hV hx;rcases Kf with g1|⟨g1,g2⟩
        all_goals
         go_upto_region 12 with fail
         go_region_with (first
          | (go_at_call 27;go_loud  (refine(rputF HQ.out _ _ (by first|exact z8|exact(z8).drew) (by omega) Hv.out).mono ?_);go_loud  (rintro e w3 ⟨v3,rfl,T3,H7⟩))
          | (go_at_call 29;go_loud  (refine(yEE T3 _ _ _ (by first|exact z8|exact(z8).drew) (by rw[zH];simp;omega) (zE Hv.out H7.size)).mono ?_);go_loud  (rintro e w4 ⟨v4,rfl,T4,H9⟩)))
         all_goals
          go_wp2_with fail
          go_meet
          exact⟨st,A ++ [mkP (S.extract 0 1),txP reN (S.extract 1 S.size)],rfl,H6,z7 (by rw[List.append_assoc]at T4;exact T4),Hz,z7 (kx.out.trans (H7.trans H9)),hl⟩
      . rw[if_neg hx]at hV
        have g1:((x.toNat:Int)==59)=false:=by rw[Y2];exact y0c x 59 (by decide) (fun h=>hx (.inl h))
        have g2:((x.toNat:Int)==33)=false:=by rw[Y2];exact y0c x 33 (by decide) (fun h=>hx (.inr h))
        have ks:=KS.out;cases hs:secL (bl S)with
        | true=>
         rw[hs]at ks;rw[if_pos hs]at hV;have KS:=z7 ks;have H6:=z7 (Hc.out _ _ hV);have hl:=Hn.out _ _ hV;obtain⟨ev,kC⟩:∃ev,(bl S==evN)=ev:=⟨_,rfl⟩;have g3:(S.toList == [91,69,118,101,110,116,115,93])=ev:=y9G ev kC;rw[kC]at H6;clear hV hx hs ks kC
         go_wp2_with (first
          | (go_at_call 31;refine(KS.out _).mono ?_;rintro e w3 ⟨rfl,H7⟩;have T3:Two w1.heap.size w3 (.slice va A.length vc) A (.slice none 0 0) []:=⟨(HQ.out.bel H7).o,World.ownsRow_nil _ _ _ _⟩;have H5:=kx.out.trans (H7.mono Hv.out))
          | (go_at_call 27;refine(rputF T3 _ _ z8 (by omega) H5.size).mono ?_;rintro e w4 ⟨v4,rfl,T4,H9⟩))
         go_meet
         case rel=>exact⟨⟨ev,none⟩,A ++ [mkP S],rfl,H6,z7 T4,by show 0<=1001;decide,z7 (H5.trans H9),hl⟩
        | false=>
         rw[hs]at ks;rw[if_neg (by rw[hs];decide)]at hV;have KS:=z7 ks
         try simp only at hV
         rw[<-HN.out]at hV;have SEC:Hid (∀w',Below w2.heap.size w2 w'->Two w1.heap.size w' (.slice va A.length vc) A (.slice fa (fsL st).length fc) (fsL st)/\Below w1.heap.size w1 w'/\w1.heap.size<=w'.heap.size):=z7 (fun w' h=>⟨HQ.out.bel h,kx.out.trans (h.mono Hv.out),zE Hv.out h.size⟩);clear hx hs ks;by_cases Hi:n=0
         . rw[if_pos Hi]at hV
           have H6:=z7 (Kb.out hV);have g3:((n:Int)==0)=true:=by rw[Hi];rfl
           clear hV Hi
           go_upto_region 18 with(go_at_call 31;refine(KS.out _).mono ?_;rintro e w3 ⟨rfl,H7⟩;obtain⟨T3,H5,He⟩:=SEC.out _ H7;obtain⟨t0,t1,t2⟩:=HW.out w3 H5)
           go_region
           go_wp2
           go_ret2
           exact⟨(Hh.out.trans (H5.mono Hh.out.size)).drew,.inl ⟨a,H6.out,rfl⟩⟩
         . rw[if_neg Hi]at hV
           have g3:((n:Int)==0)=false:=by rw[Y2];omega
           have Ki:=Kh Hi;have j0:(0:Int)<=(n:Int)+2:=by omega
           have j1:(n:Int)+2<=(S.size:Int):=by omega
           have j2:((n:Int)+2).toNat=n+2:=by omega
           have j3:IntKind.i64.wrap ((n:Int)+2)=(n:Int)+2:=wi64 _ (by omega) (by omega);have j4:(0:Int)<=(n:Int):=by omega
           have j5:(n:Int)<=(S.size:Int):=by omega
           have j6:IntKind.i64.wrap ((S.size:Int)+1)=(S.size:Int)+1:=wi64 _ (by omega) (by omega);by_cases Hk:bl (S.extract 0 n)=foN
           . rw[if_pos Hk]at hV
             have g4:((S.extract 0 n).toList == [70,111,114,109,97,116])=true:=y9G true (by rw[Hk];rfl);obtain⟨P,hP⟩:∃P,P=Lib.splitB coB 0 (Lib.countB (S.extract (n+2) S.size) coB) (S.extract (n+2) S.size):=⟨_,rfl⟩;rw[<-hP]at hV;have H6:=z7 (Hc.out _ _ hV);have hl:=Hn.out _ _ hV;have kO:(S.extract (n+2) S.size).size<=S.size:=by rw[zG];omega
             have kc:=fun w'=>yB8 (S.extract (n+2) S.size) (S.size+1) w' (by omega) (by omega)
             rw[show S.size+1-1=S.size from rfl,yFn _ _ kO,<-hP]at kc;have Kl:P.length<=1001:=by rw[hP,Lib.splitB_all coB (by decide) 0 _ _ rfl];have:=y0k (S.extract (n+2) S.size);omega
             have kX:∀p∈P,p.size<=1000000:=fun p hp=>by have:=y1C _ _ p (by rw[hP]at hp;exact hp);omega
             have KC:=z7 kc;have Kq:=z7 kX;have j7:((S.size+1:Nat):Int)=(S.size:Int)+1:=by omega
             rw[j7]at KC;clear hV Hi Hk hP kc kX kO j7
             go_wp2_with (first
              | (go_at_call 31;refine(KS.out _).mono ?_;rintro e w3 ⟨rfl,H7⟩;obtain⟨T3,H5,He⟩:=SEC.out _ H7)
              | (go_at_call 32;refine(KC.out _).mono ?_;rintro e w4 ⟨⟨pv,rfl,H8⟩,H9⟩;obtain⟨pa,pc,rfl⟩:=zN H8))
             have Ka:=z7 (y01 H8);have Kr:=z7 (T3.bel H9).o;have kJ:=z7 (H5.trans (H9.mono He));clear H8 H7 H9 H5 T3
             go_loopw [5,12] (fun fv iv wx=>∃(i:Nat) (G:List ByteArray),iv=.int .i64 (i:Int)/\i<=P.length/\Hid (G=(P.take i).map trB)/\Hid (G.length=i)/\Hid (wx.ownsRow w4.heap.size 9 1 fv G.length (scells G))/\Hid (Below w4.heap.size w4 wx)) (fun _ iv _=>P.length-(intOf iv).toNat)
             case atStart=>exact⟨0,[],rfl,zD,z7 rfl,z7 rfl,z7 (World.ownsRow_nil _ _ _ _),z7 z8⟩
             case round=>
              obtain⟨i,G,rfl,hi,Kc,kF,kI,Hy⟩:=hrel;obtain⟨ga,gc,rfl⟩:=zN kI.out;by_cases kA:i<P.length
              . obtain⟨p,hp⟩:=zM P i kA
                have kP:=Kq.out p (List.mem_of_getElem? hp);obtain⟨pg,po,rfl⟩:=y4S Ka.out i p hp;have q1:=y7E (Ka.out.keep Hy.out) i p hp;have e0:(0:Int)<=(i:Int):=by omega
                have e1':(i:Int)<(P.length:Int):=by omega
                have y1:G.length<70368744177664:=by have:=kF.out;omega
                have y2:(G.length+1)*16<=140737488355328:=by have:=kF.out;omega
                have KTR:=z7 (fun w'=>yEF p w' kP);have Ku:Hid (G ++ [trB p]=(P.take (i+1)).map trB):=z7 (by rw[Kc.out,List.take_add_one,hp,List.map_append];rfl);clear hp kP
                go_wp2_with (first
                 | (go_at_call 33;refine(KTR.out _).mono ?_;rintro e w5 ⟨rfl,Hg⟩;have Ht:=Hy.out.trans (Hg.mono Hy.out.size))
                 | (at_builtin;refine zR rfl _ _ 49 9 rfl underlying49 (.string ⟨#[]⟩) 1 16 infoStr rfl (by decide) w5 w4.heap.size (.slice ga G.length gc) G.length (scells G) rfl (zK kI.out Hg) #[.string (trB p)] rfl (by simp[Value.oneCell']) rfl y1 y2 Ht.size ?_;intro v' w6 Hp Hs KX))
                go_roundw
                case rel=>exact⟨i+1,G ++ [trB p],by first|omega|go_num,by omega,Ku,z7 (by rw[zH,kF.out];rfl),z7 (by rw[zH,show scells (G ++ [trB p])=scells G ++ [.string (trB p)] from by simp[scells]];exact Hp),z7 (Ht.trans Hs)⟩
                case measure=>simp[intOf];omega
              . have kU:i=P.length:=by omega
                have kY:G=P.map trB:=by rw[Kc.out,kU,List.take_length]
                have T5:Two w1.heap.size wr (.slice va A.length vc) A (.slice ga G.length gc) G:=⟨zK Kr.out Hy.out,zd kI.out kJ.out.size⟩;have Hg:=kJ.out.trans (Hy.out.mono kJ.out.size);have Kt:=z7 kY;clear kU kY
                go_wp2_with (go_at_call 27;refine(rputF T5 _ _ z8 (by omega) Hg.size).mono ?_;rintro e w6 ⟨v6,rfl,T6,Hs⟩)
                go_meet
                case rel=>exact⟨⟨st.ev,some (P.map trB)⟩,A ++ [mkP S],rfl,H6,z7 (by show Two _ _ _ _ _ (P.map trB);rw[<-Kt.out];exact T6),by show(P.map trB).length<=1001;rw[List.length_map];exact Kl,z7 (Hg.trans Hs),hl⟩
           . rw[if_neg Hk]at hV
             have g4:((S.extract 0 n).toList == [70,111,114,109,97,116])=false:=y9G false (by rw[Y2];exact Hk);obtain⟨evb,Hr⟩:∃evb,st.ev=evb:=⟨_,rfl⟩;rw[Hr]at hV;have Hw:=z7 hV;have Kd:=z7 Hr;clear Hk Hi hV;cases evb with
             | true=>
              have hV:=Hw.out;rw[if_pos rfl,evP_fs]at hV;obtain⟨Q,hQ⟩:∃Q,Q=evP (some (fsL st)) (S.extract 0 (n+2)) (S.extract (n+2) S.size):=⟨_,rfl⟩;rw[<-hQ]at hV;have ke:=fun w' (h:Two w1.heap.size w' (.slice va A.length vc) A (.slice fa (fsL st).length fc) (fsL st))=>yCS S (n+2) (fsL st) (.slice fa (fsL st).length fc) w1.heap.size w' h.f (by omega) Ki (by omega)
              rw[<-hQ]at ke;rw[show((n+2:Nat):Int)=(n:Int)+2 by omega]at ke;cases hq:Q with
              | none=>
               rw[hq]at hV ke;have H6:=z7 (Kb.out hV);have KE:=z7 ke;clear hV hQ hq ke Hw
               go_upto_region 30 with(first
                | (go_at_call 31;refine(KS.out _).mono ?_;rintro e w3 ⟨rfl,H7⟩;obtain⟨T3,H5,He⟩:=SEC.out _ H7)
                | (go_at_call 34;refine(KE.out _ T3).mono ?_;rintro e w4 ⟨H9,(⟨_,x4,rfl⟩|⟨l4,v4,h4,_⟩)⟩;rotate_left;(cases h4);have Hd:=H5.trans (H9.mono He);obtain⟨t0,t1,t2⟩:=HW.out w4 Hd))
               go_region
               go_wp2
               go_ret2
               exact⟨(Hh.out.trans (Hd.mono Hh.out.size)).drew,.inl ⟨a,H6.out,rfl⟩⟩
              | some l=>
               rw[hq]at hV ke;simp only at hV;have H6:=z7 (Hc.out _ _ hV);have hl:=Hn.out _ _ hV;have KE:=z7 (fun w' h=>(ke w' h).mono (fun e w'' (q:EvP (some l) w' e w'')=>show(∃v,e=.returned (.tuple #[v,.bool true])/\y1q w'' v l.length (pcC l))/\Below w'.heap.size w' w'' from by
                rcases q.2 with⟨h,_⟩|⟨l',v,h,h1,h2⟩
                . cases h
                . cases h;exact⟨⟨v,h1,h2⟩,q.1⟩))
               rw[zH]at hl;have y1:A.length+l.length<70368744177664:=by omega
               have y2:(A.length+l.length)*40<=140737488355328:=by omega
               clear hV hQ hq ke Hw
               go_wp2_with (first
                | (go_at_call 31;refine(KS.out _).mono ?_;rintro e w3 ⟨rfl,H7⟩;obtain⟨T3,H5,He⟩:=SEC.out _ H7)
                | (go_at_call 34;refine(KE.out _ T3).mono ?_;rintro e w4 ⟨⟨v4,rfl,Kg⟩,H9⟩;have T4:=T3.bel H9;have Hd:=H5.trans (H9.mono He))
                | (at_builtin;refine y0C rfl _ _ 29 99 rfl underlying29 Y3 3 40 infoPc rfl (by decide) w4 w1.heap.size (.slice va A.length vc) A.length (pcC A) rfl T4.o v4 l.length (pcC l) rfl Kg (y0N _) (y5D _) y1 y2 Hd.size ?_;intro v5 w5 Hq Hg Kj))
               go_meet
               case rel=>exact⟨st,A++l,by first|rfl|rw[Kd.out],H6,z7 ⟨by rw[zo,zH];exact Hq,yAL T4.o T4.f Kj⟩,Hz,z7 (Hd.trans Hg),by rw[zH];exact hl⟩
             | false=>
              have hV:=Hw.out;rw[if_neg (by decide)]at hV;have H6:=z7 (Hc.out _ _ hV);have hl:=Hn.out _ _ hV;clear hV Hw
              go_upto_region 32 with(go_at_call 31;refine(KS.out _).mono ?_;rintro e w3 ⟨rfl,H7⟩;obtain⟨T3,H5,He⟩:=SEC.out _ H7)
              go_region_with (first
               | (go_at_call 27;go_loud  (refine(rputF T3 _ _ (by first|exact z8|exact(z8).drew) (by omega) He).mono ?_);go_loud  (rintro e w4 ⟨v4,rfl,T4,H9⟩))
               | (go_at_call 29;go_loud  (refine(yEE T4 _ _ _ (by first|exact z8|exact(z8).drew) (by rw[zH];simp;omega) (zE He H9.size)).mono ?_);go_loud  (rintro e w5 ⟨v5,rfl,T5,Hg⟩)))
              all_goals
               go_wp2_with fail
               go_meet
               exact⟨st,A ++ [mkP (S.extract 0 (n+2)),txP (S.extract 0 n) (S.extract (n+2) S.size)],by first|rfl|rw[Kd.out],H6,z7 (by rw[List.append_assoc]at T5;exact T5),Hz,z7 (H5.trans (H9.trans Hg)),hl⟩
    case rest=>
     obtain⟨st',A',rfl,Kp,K9,Hu,k9,Kn⟩:=hcut;obtain⟨p0,p1,p2⟩:=HW.out wc k9.out;have Hl:=Kp.out;have ky:=k9.out.size;by_cases Hm:N.size=0
     . obtain⟨n1,n2,n3⟩:=y2d N Hm
       rw[y5N N Hm,List.append_nil]at Hl;have kH:=z7 Hl;clear Hl Hm
       go_wp2_with fail
       go_roundw
       case rel=>exact⟨k+1,D,st',A',rfl,by first|omega|go_num,e4,Ke,kH,K9,Hu,k9,by omega⟩
       case measure=>simp[intOf];omega
     . obtain⟨n1,n2,n3⟩:=y0n N Hm
       rw[y2n N Hm]at Hl;have kH:=z7 Hl;clear Hl Hm
       go_wp2_with (go_at_call 27;refine(rputF K9.out _ _ z8 (by omega) ky).mono ?_;rintro e w6 ⟨v6,rfl,T6,Hs⟩)
       go_roundw
       case rel=>exact⟨k+1,D,st',A' ++ [mkP N],rfl,by first|omega|go_num,e4,Ke,kH,z7 T6,Hu,z7 (k9.out.trans Hs),by rw[zH];simp;omega⟩
       case measure=>simp[intOf];omega
  . have KZ:a=b.size:=by omega
    have Hj:=y0u (bl b) a (by rw[HL.out];omega);have Ha:=HA.out;rw[Hj]at Ha;have hd:=HD.out;rw[Hj]at hd;have Kz:L.length<=k:=by
     rcases Nat.lt_or_ge k L.length with h|h
     . rw[List.drop_eq_getElem_cons h]at hd;cases hd
     . exact h
    have kK:=z7 Ha;clear Ha hd Hj;go_wp2;go_ret2
    exact⟨Hh.out.trans (HB.out.mono Hh.out.size),.inr ⟨A,_,kK.out,rfl,zd HT.out.o Hh.out.size⟩⟩
