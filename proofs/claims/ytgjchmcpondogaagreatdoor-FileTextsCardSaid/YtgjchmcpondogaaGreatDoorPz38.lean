/- Pz38 -/
import Derived.Deep.CutRange
import Derived.Test.YtgjchmcpondogaaGreatDoorPX
set_option linter.all false
set_option maxRecDepth 100000
set_option maxHeartbeats 40000000
namespace Go.Proofs.YtgjchmcpondogaaGreatDoor
open Go Go.Rf Go.RowKit
theorem yFC(V:ByteArray)(m:Nat)(h:V.size≤m):Lib.splitB coB 0 m V=Lib.splitB coB 0 (Lib.countB V coB) V:=y30 V.size m V (Nat.le_refl _) (Nat.le_trans (y0i V) h)
theorem y83(b:ByteArray)(w:World)(hG:GW w)(hs:b.size≤1000):Calls Tryz.prog 36 #[.string b] w (RefR (ssaM b) w):=by
 have HL:Hid ((bl b).length=b.size):=zJ b;obtain⟨L,hL⟩:∃L,L=lnF (bl b) 0:=⟨_,rfl⟩;have k1:=y2E b w (by omega);have hLn:=y1X b;obtain⟨R,hR⟩:∃R,R=ssaM b:=⟨_,rfl⟩;rw[←hR];rw[←hL]at k1 hLn;unfold ssaM at hR;have K1:=Lib.hid k1;have HX:=Lib.hid hR;have HLL:=Lib.hid hL;clear k1 hR hL hG
 go_enter Tryz.func36,Tryz.ntmps36
 go_wp2_with (go_at_call 74;(with_reducible refine(K1.out).mono ?_);rintro e w1 ⟨v,rfl,hown,hb1⟩;obtain⟨a1,c1,rfl⟩:=zL hown)
 have HR:=Lib.hid (zm hown);have HB1:=Lib.hid hb1;clear hown hb1
 go_loopw [4,5,6,8] (fun v fv ev iv wr=>∃(k a:Nat) (st:Sc) (A:List Pc),ev=.bool st.ev∧iv=.int .i64 (k:Int)∧a≤b.size∧Hid (L.drop k=lnF (bl b) a)∧Hid (R=outP (walkS ssaS b st A (lnF (bl b) a)))∧Hid (Two w1.heap.size wr v A fv (fsL st))∧(fsL st).length≤1001∧Hid (Below w1.heap.size w1 wr)∧A.length≤3*a) (fun _ _ _ iv _=>L.length-(intOf iv).toNat)
 case atStart=>exact⟨0,0,⟨false,none⟩,[],rfl,rfl,Nat.zero_le _,HLL,HX,Lib.hid ⟨World.ownsRow_nil _ _ _ _,World.ownsRow_nil _ _ _ _⟩,by decide,Lib.hid (Below.refl _ _),Nat.zero_le _⟩
 case round=>
  obtain⟨k,a,st,A,rfl,rfl,hab,HD,HA,HT,hFl,HB,hAl⟩:=hrel;by_cases hlt:a<b.size
  · obtain⟨E,hE⟩:∃E,E=nxE (bl b) a:=⟨_,rfl⟩
    obtain⟨D,hD⟩:∃D,D=nxB (bl b) E:=⟨_,rfl⟩;have hcons:=zp (bl b) a (by rw[HL.out];exact hlt);have e1:a≤E:=by rw[hE];exact y1w _ _
    have e2:E≤b.size:=by rw[hE,←HL.out];exact y2Z _ _ (by rw[HL.out];exact hab)
    have e3:E≤D:=by rw[hD];exact y35 _ _
    have e4:D≤b.size:=by rw[hD,←HL.out];exact y3o _ _ (by rw[HL.out];exact e2)
    have e5:a<D:=by rw[hD,hE];exact y58 _ _ (by rw[HL.out];exact hlt)
    rw[←hE,←hD]at hcons;obtain⟨hp,hd,hkl⟩:=y3D (HD.out.trans hcons);have hA2:=HA.out;rw[hcons]at hA2;unfold walkS at hA2;obtain⟨g,o,c',e,_⟩:=y0D HR.out _ _ (y0H b L k _ hp 0 _ rfl);simp only[Value.slice.injEq]at e;obtain⟨rfl,_,rfl⟩:=e;have hw:∀w' (h:Below w1.heap.size w1 w'),_:=fun w' h=>y1T (HR.out.keep h) k (a,E,D) hp
    obtain⟨S,hS⟩:∃S,S=b.extract a E:=⟨_,rfl⟩;have hSz:S.size=E-a:=by rw[hS,ByteArray.size_extract];omega
    have hmk:=y7E b E D e3 e4;obtain⟨N,hN⟩:∃N,N=b.extract E D:=⟨_,rfl⟩;have hNz:N.size=D-E:=by rw[hN,ByteArray.size_extract];omega
    simp only at hw;rw[←hN]at hmk;rw[←hS]at hA2;simp only[←hS,←hN]at hw;rw[←hN,←hmk]at hA2;have HW:=Lib.hid hw;have HBW:=Lib.hid (HB1.out.trans (HB.out.mono HB1.out.size));obtain⟨p0,p1,p2⟩:=HW.out wr HB.out;have z1:=HB.out.size;have HD2:=Lib.hid hd;obtain⟨va,vc,rfl⟩:=zL HT.out.o;obtain⟨fa,fc,rfl⟩:=zL HT.out.f;have hz6:A.length<1000000:=by omega
    have hz7:∀x:Pc,(A ++ [x]).length<1000000:=fun x=>by rw[List.length_append];simp;omega
    clear hw hp hd hcons hmk hN hS hE hD;obtain⟨n,hn⟩:∃n,n=keN (bl S):=⟨_,rfl⟩;have hnl:n≠0→n+2≤S.size:=fun h=>by rw[hn]at h ⊢;have:=yB8 _ h;rwa [zJ]at this
    have kk:=fun w'=>yGY S w' (by omega)
    rw[←hn]at kk;have KK:=Lib.hid kk;obtain⟨V,hV⟩:∃V,V=ssaS st S:=⟨_,rfl⟩;rw[←hV]at hA2;have HA2:=Lib.hid hA2;have HN:=Lib.hid hn;have HVV:=Lib.hid hV;have hS0:S.size≤1000:=by omega
    have HSZ:=Lib.hid hSz;clear kk hA2 hn hV hSz
    go_upto_if 31 with(go_at_call 81;refine(KK.out _).mono ?_;rintro e w2 ⟨rfl,hb2⟩;have hbz2:=HB.out.trans (hb2.mono HB.out.size);have T2:=HT.out.bel hb2;obtain⟨r0,r1,r2⟩:=HW.out w2 hbz2)
    have HB2:=Lib.hid hbz2;have HT2:=Lib.hid T2;have HZ1:Hid (w1.heap.size≤w2.heap.size):=Lib.hid hbz2.size;clear hb2 hbz2 T2 p0 p1 p2
    go_cut [4,5,6] from 17 to 135 (fun v4 v5 v6 wx=>∃(st':Sc) (A':List Pc),v6=.bool st'.ev∧Hid (R=outP (walkS ssaS b st' (A'++mkL N) (lnF (bl b) D)))∧Hid (Two w1.heap.size wx v4 A' v5 (fsL st'))∧(fsL st').length≤1001∧Hid (Below w1.heap.size w1 wx)∧A'.length≤3*a+2*(E-a))
    case first=>
     have hA2:=HA2.out;have hV:=HVV.out;unfold ssaS at hV;have KS:=Lib.hid (fun w'=>yGS S w' (by omega));have hno:=fun(h:V=none)=>show R=.inr a by rw[hA2,h];rfl
     have hyes:=fun(st':Sc) (ps:List Pc) (h:V=some (st',ps))=>show R=outP (walkS ssaS b st' ((A++ps)++mkL N) (lnF (bl b) D)) by rw[hA2,h]
     have hln:=fun(st':Sc) (ps:List Pc) (h:V=some (st',ps))=>show(A++ps).length≤3*a+2*(E-a) by have:=y9E st S st' ps (HVV.out.symm.trans h);have:=HSZ.out;rw[List.length_append];omega
     have HNO:=Lib.hid hno;have HYES:=Lib.hid hyes;have HLN:=Lib.hid hln;clear hA2 hno hyes hln;cases hb:bl S with
     | nil=>
      rw[hb]at hV;simp only at hV;have s0:S.size=0:=by rw[←zJ,hb];rfl
      obtain⟨s1,s2,s3⟩:=y2W S s0;have hr:=HYES.out st [] hV;have hl:=HLN.out st [] hV;have HRR:=Lib.hid hr;rw[List.append_nil]at hl;clear hr hV hb s0;rw[s1]
      go_wp2_with fail
      go_meet
      case rel=>exact⟨st,A,rfl,by rw[List.append_nil]at HRR;exact HRR,HT2,hFl,HB2,hl⟩
     | cons x r=>
      have s0:¬S.size=0:=by rw[←zJ,hb];simp
      obtain⟨s1,s2,s3⟩:=y0l S s0;have hx0:(bl S)[0]?=some x:=by rw[hb];rfl
      have X:∀h,S[0]'h=x:=zT S 0 x hx0;have hxl:=x.toNat_lt;have i0:(0:Int)<(S.size:Int):=by omega
      have i1:(1:Int)≤(S.size:Int):=by omega
      rw[hb]at hV;simp only at hV;rw[←hb]at hV;clear hx0 hb s0;rw[s1];by_cases hx:x=59∨x=33
      · rw[if_pos hx]at hV
        have HRR:=Lib.hid (HYES.out _ _ hV);have hl:=HLN.out _ _ hV;have hx2:((x.toNat:Int)==59)=true∨(((x.toNat:Int)==59)=false∧((x.toNat:Int)==33)=true):=by
         rcases hx with h|h
         · exact .inl (by rw[h];rfl)
         · exact .inr ⟨by rw[h];rfl,by rw[h];rfl⟩
        clear hV hx;rcases hx2 with g1|⟨g1,g2⟩
        all_goals
         go_upto_region 12 with fail
         go_region_with (first
          | (go_at_call 78;go_loud  (refine(rputF HT2.out _ _ (by first|exact Below.refl _ _|exact(Below.refl _ _).drew) (by omega) HZ1.out).mono ?_);go_loud  (rintro e w3 ⟨v3,rfl,T3,hb3⟩))
          | (go_at_call 80;go_loud  (refine(yDk T3 _ _ _ (by first|exact Below.refl _ _|exact(Below.refl _ _).drew) (by rw[List.length_append];simp;omega) (Nat.le_trans HZ1.out hb3.size)).mono ?_);go_loud  (rintro e w4 ⟨v4,rfl,T4,hb4⟩)))
         all_goals
          go_wp2_with fail
          go_meet
          exact⟨st,A ++ [mkP (S.extract 0 1),txP reN (S.extract 1 S.size)],rfl,HRR,Lib.hid (by rw[List.append_assoc]at T4;exact T4),hFl,Lib.hid (HB2.out.trans (hb3.trans hb4)),hl⟩
      · rw[if_neg hx]at hV
        have g1:((x.toNat:Int)==59)=false:=by rw[beq_eq_false_iff_ne];exact y0a x 59 (by decide) (fun h=>hx (.inl h))
        have g2:((x.toNat:Int)==33)=false:=by rw[beq_eq_false_iff_ne];exact y0a x 33 (by decide) (fun h=>hx (.inr h))
        have ks:=KS.out;cases hs:secL (bl S)with
        | true=>
         rw[hs]at ks;rw[if_pos hs]at hV;have KS:=Lib.hid ks;have HRR:=Lib.hid (HYES.out _ _ hV);have hl:=HLN.out _ _ hV;obtain⟨ev,hev⟩:∃ev,(bl S==evN)=ev:=⟨_,rfl⟩;have g3:(S.toList == [91,69,118,101,110,116,115,93])=ev:=y8w ev hev;rw[hev]at HRR;clear hV hx hs ks hev
         go_wp2_with (first
          | (go_at_call 82;refine(KS.out _).mono ?_;rintro e w3 ⟨rfl,hb3⟩;have T3:Two w1.heap.size w3 (.slice va A.length vc) A (.slice none 0 0) []:=⟨(HT2.out.bel hb3).o,World.ownsRow_nil _ _ _ _⟩;have hb3':=HB2.out.trans (hb3.mono HZ1.out))
          | (go_at_call 78;refine(rputF T3 _ _ (Below.refl _ _) (by omega) hb3'.size).mono ?_;rintro e w4 ⟨v4,rfl,T4,hb4⟩))
         go_meet
         case rel=>exact⟨⟨ev,none⟩,A ++ [mkP S],rfl,HRR,Lib.hid T4,by show 0≤1001;decide,Lib.hid (hb3'.trans hb4),hl⟩
        | false=>
         rw[hs]at ks;rw[if_neg (by rw[hs];decide)]at hV;have KS:=Lib.hid ks
         try simp only at hV
         rw[←HN.out]at hV;have SEC:Hid (∀w',Below w2.heap.size w2 w'→Two w1.heap.size w' (.slice va A.length vc) A (.slice fa (fsL st).length fc) (fsL st)∧Below w1.heap.size w1 w'∧w1.heap.size≤w'.heap.size):=Lib.hid (fun w' h=>⟨HT2.out.bel h,HB2.out.trans (h.mono HZ1.out),Nat.le_trans HZ1.out h.size⟩);clear hx hs ks;by_cases hn0:n=0
         · rw[if_pos hn0]at hV
           have HRR:=Lib.hid (HNO.out hV);have g3:((n:Int)==0)=true:=by rw[hn0];rfl
           clear hV hn0
           go_upto_region 18 with(go_at_call 82;refine(KS.out _).mono ?_;rintro e w3 ⟨rfl,hb3⟩;obtain⟨T3,hb3',hz3⟩:=SEC.out _ hb3;obtain⟨t0,t1,t2⟩:=HW.out w3 hb3')
           go_region
           go_wp2
           go_ret2
           exact⟨(HB1.out.trans (hb3'.mono HB1.out.size)).drew,.inl ⟨a,HRR.out,rfl⟩⟩
         · rw[if_neg hn0]at hV
           have g3:((n:Int)==0)=false:=by rw[beq_eq_false_iff_ne];omega
           have hn2:=hnl hn0;have j0:(0:Int)≤(n:Int)+2:=by omega
           have j1:(n:Int)+2≤(S.size:Int):=by omega
           have j2:((n:Int)+2).toNat=n+2:=by omega
           have j3:IntKind.i64.wrap ((n:Int)+2)=(n:Int)+2:=wi64 _ (by omega) (by omega);have j4:(0:Int)≤(n:Int):=by omega
           have j5:(n:Int)≤(S.size:Int):=by omega
           have j6:IntKind.i64.wrap ((S.size:Int)+1)=(S.size:Int)+1:=wi64 _ (by omega) (by omega);by_cases hfo:bl (S.extract 0 n)=foN
           · rw[if_pos hfo]at hV
             have g4:((S.extract 0 n).toList == [70,111,114,109,97,116])=true:=y8w true (by rw[hfo];rfl);obtain⟨P,hP⟩:∃P,P=Lib.splitB coB 0 (Lib.countB (S.extract (n+2) S.size) coB) (S.extract (n+2) S.size):=⟨_,rfl⟩;rw[←hP]at hV;have HRR:=Lib.hid (HYES.out _ _ hV);have hl:=HLN.out _ _ hV;have hvz:(S.extract (n+2) S.size).size≤S.size:=by rw[ByteArray.size_extract];omega
             have kc:=fun w'=>yAd (S.extract (n+2) S.size) (S.size+1) w' (by omega) (by omega)
             rw[show S.size+1-1=S.size from rfl,yFC _ _ hvz,←hP]at kc;have hPb:P.length≤1001:=by rw[hP,Lib.splitB_all coB (by decide) 0 _ _ rfl];have:=y0i (S.extract (n+2) S.size);omega
             have hPz:∀p∈P,p.size≤1000000:=fun p hp=>by have:=y19 _ _ p (by rw[hP]at hp;exact hp);omega
             have KC:=Lib.hid kc;have HPZ:=Lib.hid hPz;have j7:((S.size+1:Nat):Int)=(S.size:Int)+1:=by omega
             rw[j7]at KC;clear hV hn0 hfo hP kc hPz hvz j7
             go_wp2_with (first
              | (go_at_call 82;refine(KS.out _).mono ?_;rintro e w3 ⟨rfl,hb3⟩;obtain⟨T3,hb3',hz3⟩:=SEC.out _ hb3)
              | (go_at_call 83;refine(KC.out _).mono ?_;rintro e w4 ⟨⟨pv,rfl,hown⟩,hb4⟩;obtain⟨pa,pc,rfl⟩:=zL hown))
             have HRP:=Lib.hid (zm hown);have HO4:=Lib.hid (T3.bel hb4).o;have HB4:=Lib.hid (hb3'.trans (hb4.mono hz3));clear hown hb3 hb4 hb3' T3
             go_loopw [5,12] (fun fv iv wx=>∃(i:Nat) (G:List ByteArray),iv=.int .i64 (i:Int)∧i≤P.length∧Hid (G=(P.take i).map trB)∧Hid (G.length=i)∧Hid (wx.ownsRow w4.heap.size 9 1 fv G.length (scells G))∧Hid (Below w4.heap.size w4 wx)) (fun _ iv _=>P.length-(intOf iv).toNat)
             case atStart=>exact⟨0,[],rfl,Nat.zero_le _,Lib.hid rfl,Lib.hid rfl,Lib.hid (World.ownsRow_nil _ _ _ _),Lib.hid (Below.refl _ _)⟩
             case round=>
              obtain⟨i,G,rfl,hi,HGG,hGl,HOG,HBG⟩:=hrel;obtain⟨ga,gc,rfl⟩:=zL HOG.out;by_cases hlt2:i<P.length
              · obtain⟨p,hp⟩:=zM P i hlt2
                have hpz:=HPZ.out p (List.mem_of_getElem? hp);obtain⟨pg,po,rfl⟩:=y70 HRP.out i p hp;have q1:=y9P (HRP.out.keep HBG.out) i p hp;have e0:(0:Int)≤(i:Int):=by omega
                have e1':(i:Int)<(P.length:Int):=by omega
                have y1:G.length<70368744177664:=by have:=hGl.out;omega
                have y2:(G.length+1)*16≤140737488355328:=by have:=hGl.out;omega
                have KTR:=Lib.hid (fun w'=>yDl p w' hpz);have HG2:Hid (G ++ [trB p]=(P.take (i+1)).map trB):=Lib.hid (by rw[HGG.out,List.take_add_one,hp,List.map_append];rfl);clear hp hpz
                go_wp2_with (first
                 | (go_at_call 84;refine(KTR.out _).mono ?_;rintro e w5 ⟨rfl,hb5⟩;have hb5':=HBG.out.trans (hb5.mono HBG.out.size))
                 | (at_builtin;refine zP rfl _ _ 131 9 rfl Tryz.underlying131 (.string ⟨#[]⟩) 1 16 infoStr rfl (by decide) w5 w4.heap.size (.slice ga G.length gc) G.length (scells G) rfl (zK HOG.out hb5) #[.string (trB p)] rfl (by simp[Value.oneCell']) rfl y1 y2 hb5'.size ?_;intro v' w6 hown6 hb6 hk6))
                go_roundw
                case rel=>exact⟨i+1,G ++ [trB p],by first|omega|go_num,by omega,HG2,Lib.hid (by rw[List.length_append,hGl.out];rfl),Lib.hid (by rw[List.length_append,show scells (G ++ [trB p])=scells G ++ [.string (trB p)] from by simp[scells]];exact hown6),Lib.hid (hb5'.trans hb6)⟩
                case measure=>simp[intOf];omega
              · have hie:i=P.length:=by omega
                have hGG:G=P.map trB:=by rw[HGG.out,hie,List.take_length]
                have T5:Two w1.heap.size wr (.slice va A.length vc) A (.slice ga G.length gc) G:=⟨zK HO4.out HBG.out,zb HOG.out HB4.out.size⟩;have hb5:=HB4.out.trans (HBG.out.mono HB4.out.size);have HGM:=Lib.hid hGG;clear hie hGG
                go_wp2_with (go_at_call 78;refine(rputF T5 _ _ (Below.refl _ _) (by omega) hb5.size).mono ?_;rintro e w6 ⟨v6,rfl,T6,hb6⟩)
                go_meet
                case rel=>exact⟨⟨st.ev,some (P.map trB)⟩,A ++ [mkP S],rfl,HRR,Lib.hid (by show Two _ _ _ _ _ (P.map trB);rw[←HGM.out];exact T6),by show(P.map trB).length≤1001;rw[List.length_map];exact hPb,Lib.hid (hb5.trans hb6),hl⟩
           · rw[if_neg hfo]at hV
             have g4:((S.extract 0 n).toList == [70,111,114,109,97,116])=false:=y8w false (by rw[beq_eq_false_iff_ne];exact hfo);obtain⟨evb,hevb⟩:∃evb,st.ev=evb:=⟨_,rfl⟩;rw[hevb]at hV;have HVF:=Lib.hid hV;have HEV:=Lib.hid hevb;clear hfo hn0 hV;cases evb with
             | true=>
              have hV:=HVF.out;rw[if_pos rfl,evP_fs]at hV;obtain⟨Q,hQ⟩:∃Q,Q=evP (some (fsL st)) (S.extract 0 (n+2)) (S.extract (n+2) S.size):=⟨_,rfl⟩;rw[←hQ]at hV;have ke:=fun w' (h:Two w1.heap.size w' (.slice va A.length vc) A (.slice fa (fsL st).length fc) (fsL st))=>yBy S (n+2) (fsL st) (.slice fa (fsL st).length fc) w1.heap.size w' h.f (by omega) hn2 (by omega)
              rw[←hQ]at ke;rw[show((n+2:Nat):Int)=(n:Int)+2 by omega]at ke;cases hq:Q with
              | none=>
               rw[hq]at hV ke;have HRR:=Lib.hid (HNO.out hV);have KE:=Lib.hid ke;clear hV hQ hq ke HVF
               go_upto_region 30 with(first
                | (go_at_call 82;refine(KS.out _).mono ?_;rintro e w3 ⟨rfl,hb3⟩;obtain⟨T3,hb3',hz3⟩:=SEC.out _ hb3)
                | (go_at_call 85;refine(KE.out _ T3).mono ?_;rintro e w4 ⟨hb4,(⟨_,x4,rfl⟩|⟨l4,v4,h4,_⟩)⟩;rotate_left;(cases h4);have hb4':=hb3'.trans (hb4.mono hz3);obtain⟨t0,t1,t2⟩:=HW.out w4 hb4'))
               go_region
               go_wp2
               go_ret2
               exact⟨(HB1.out.trans (hb4'.mono HB1.out.size)).drew,.inl ⟨a,HRR.out,rfl⟩⟩
              | some l=>
               rw[hq]at hV ke;simp only at hV;have HRR:=Lib.hid (HYES.out _ _ hV);have hl:=HLN.out _ _ hV;have KE:=Lib.hid (fun w' h=>(ke w' h).mono (fun e w'' (q:EvP (some l) w' e w'')=>show(∃v,e=.returned (.tuple #[v,.bool true])∧y1o w'' v l.length (pcC l))∧Below w'.heap.size w' w'' from by
                rcases q.2 with⟨h,_⟩|⟨l',v,h,h1,h2⟩
                · cases h
                · cases h;exact⟨⟨v,h1,h2⟩,q.1⟩))
               rw[List.length_append]at hl;have y1:A.length+l.length<70368744177664:=by omega
               have y2:(A.length+l.length)*40≤140737488355328:=by omega
               clear hV hQ hq ke HVF
               go_wp2_with (first
                | (go_at_call 82;refine(KS.out _).mono ?_;rintro e w3 ⟨rfl,hb3⟩;obtain⟨T3,hb3',hz3⟩:=SEC.out _ hb3)
                | (go_at_call 85;refine(KE.out _ T3).mono ?_;rintro e w4 ⟨⟨v4,rfl,hr4⟩,hb4⟩;have T4:=T3.bel hb4;have hb4':=hb3'.trans (hb4.mono hz3))
                | (at_builtin;refine y08 rfl _ _ 46 73 rfl Tryz.underlying46 (.agg #[.bool false,.string ⟨#[]⟩,.string ⟨#[]⟩]) 3 40 infoPc rfl (by decide) w4 w1.heap.size (.slice va A.length vc) A.length (pcC A) rfl T4.o v4 l.length (pcC l) rfl hr4 (y0L _) (y52 _) y1 y2 hb4'.size ?_;intro v5 w5 hown5 hb5 hk5))
               go_meet
               case rel=>exact⟨st,A++l,by first|rfl|rw[HEV.out],HRR,Lib.hid ⟨by rw[zl,List.length_append];exact hown5,y9u T4.o T4.f hk5⟩,hFl,Lib.hid (hb4'.trans hb5),by rw[List.length_append];exact hl⟩
             | false=>
              have hV:=HVF.out;rw[if_neg (by decide)]at hV;have HRR:=Lib.hid (HYES.out _ _ hV);have hl:=HLN.out _ _ hV;clear hV HVF
              go_upto_region 32 with(go_at_call 82;refine(KS.out _).mono ?_;rintro e w3 ⟨rfl,hb3⟩;obtain⟨T3,hb3',hz3⟩:=SEC.out _ hb3)
              go_region_with (first
               | (go_at_call 78;go_loud  (refine(rputF T3 _ _ (by first|exact Below.refl _ _|exact(Below.refl _ _).drew) (by omega) hz3).mono ?_);go_loud  (rintro e w4 ⟨v4,rfl,T4,hb4⟩))
               | (go_at_call 80;go_loud  (refine(yDk T4 _ _ _ (by first|exact Below.refl _ _|exact(Below.refl _ _).drew) (by rw[List.length_append];simp;omega) (Nat.le_trans hz3 hb4.size)).mono ?_);go_loud  (rintro e w5 ⟨v5,rfl,T5,hb5⟩)))
              all_goals
               go_wp2_with fail
               go_meet
               exact⟨st,A ++ [mkP (S.extract 0 (n+2)),txP (S.extract 0 n) (S.extract (n+2) S.size)],by first|rfl|rw[HEV.out],HRR,Lib.hid (by rw[List.append_assoc]at T5;exact T5),hFl,Lib.hid (hb3'.trans (hb4.trans hb5)),hl⟩
    case rest=>
     obtain⟨st',A',rfl,HR3,HT3,hFl3,HB3,hAl3⟩:=hcut;obtain⟨p0,p1,p2⟩:=HW.out wc HB3.out;have hR3:=HR3.out;have hsz3:=HB3.out.size;by_cases hN0:N.size=0
     · obtain⟨n1,n2,n3⟩:=y2W N hN0
       rw[y5C N hN0,List.append_nil]at hR3;have HR4:=Lib.hid hR3;clear hR3 hN0
       go_wp2_with fail
       go_roundw
       case rel=>exact⟨k+1,D,st',A',rfl,by first|omega|go_num,e4,HD2,HR4,HT3,hFl3,HB3,by omega⟩
       case measure=>simp[intOf];omega
     · obtain⟨n1,n2,n3⟩:=y0l N hN0
       rw[y2i N hN0]at hR3;have HR4:=Lib.hid hR3;clear hR3 hN0
       go_wp2_with (go_at_call 78;refine(rputF HT3.out _ _ (Below.refl _ _) (by omega) hsz3).mono ?_;rintro e w6 ⟨v6,rfl,T6,hb6⟩)
       go_roundw
       case rel=>exact⟨k+1,D,st',A' ++ [mkP N],rfl,by first|omega|go_num,e4,HD2,HR4,Lib.hid T6,hFl3,Lib.hid (HB3.out.trans hb6),by rw[List.length_append];simp;omega⟩
       case measure=>simp[intOf];omega
  · have hae:a=b.size:=by omega
    have hend:=y0s (bl b) a (by rw[HL.out];omega);have hA2:=HA.out;rw[hend]at hA2;have hd:=HD.out;rw[hend]at hd;have hkL:L.length≤k:=by
     rcases Nat.lt_or_ge k L.length with h|h
     · rw[List.drop_eq_getElem_cons h]at hd;cases hd
     · exact h
    have HA2:=Lib.hid hA2;clear hA2 hd hend
    go_wp2
    go_ret2
    exact⟨HB1.out.trans (HB.out.mono HB1.out.size),.inr ⟨A,_,HA2.out,rfl,zb HT.out.o HB1.out.size⟩⟩
end Go.Proofs.YtgjchmcpondogaaGreatDoor
