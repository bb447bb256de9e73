/- PX -/
import Derived.Test.YtgjchmcpondogaaGreatDoorPW
set_option linter.all false
set_option maxRecDepth 100000
set_option maxHeartbeats 40000000
namespace Go.Proofs.YtgjchmcpondogaaGreatDoor
open Go Go.Rf Go.RowKit Go.Proofs.Tryz
def cTr(q:Bool):List SymF:=[(157,[.a (.sym 2),.a (lS timL)],one1 (lB q))]
noncomputable abbrev yIV(T:Told):Option V2:=symEv T 79 [.a (.sym 0)]
theorem rTr0:yIV (tTs false false [] [] [] [])=some (one1 (lB false)):=by kernel_rfl
theorem rTr1(q:Bool):yIV (tTs true true [] [] sTs (cTr q))=some (one1 (lB q)):=by cases q<;>kernel_rfl
theorem rTr2(q t:Bool):yIV (tTs true false [(.eql,.sym 3,u8 32,lB t)] [(.sym 0,lI 29,.sym 3)] sTs (cTr q))=some (one1 (lB (q&&t))):=by cases q<;>cases t<;>kernel_rfl
theorem yBv(s:ByteArray)(w:World)(hG:GW w)(hs:s.size≤1000000):Calls prog 79 #[.string s] w fun e w'=>e=.returned (.bool (timesL (bl s)))∧Below w.heap.size w w':=by
 have hL:=zJ s
 letI:=sgL [.string s,.int .i64 s.size,.string (s.extract 0 29),.int .u8 (byN (bl s) 29)] ⟨zQ _,zR _ _,zQ _,zR _ _,trivial⟩
 have hl:AllP LenOk [((0:Nat),At.sym 1)]:=⟨⟨s,rfl,fun _=>rfl⟩,trivial⟩;unfold timesL;rw[hL];by_cases h:29≤s.size
 · rw[decide_eq_true h,Bool.true_and]
   have e1:bl (s.extract 0 29)=(bl s).take 29:=by rw[y1f];rfl
   have H5:AllP y43 sTs:=⟨⟨s,0,29,fun _=>rfl,rfl,⟨.i64,fun _=>rfl⟩,by omega,h,fun _=>rfl⟩,trivial⟩;have kl:COk w (157,[.a (.sym 2),.a (lS timL)],one1 (lB (zU ((bl s).take 29) timL))):=
    ⟨[.string (s.extract 0 29),.string ⟨⟨timL⟩⟩],_,fun _=>rfl,fun _=>rfl,fun w' _=>by rw[←e1];exact y1t (s.extract 0 29) ⟨⟨timL⟩⟩ w' (by rw[zG];omega) (by decide)⟩
   by_cases h2:s.size=29
   · rw[decide_eq_true h2,Bool.true_or,Bool.and_true]
     exact y00 (vals:=[.string s]) hG (T:=tTs true true [] [] sTs (cTr _)) ⟨⟨y0X (a:=s.size) (c:=29) (k:=.i64) (fun _=>rfl) (fun _=>rfl) (by simp;omega),y0R (a:=s.size) (c:=29) (k:=.i64) (fun _=>rfl) (fun _=>rfl) (by simp;omega),trivial⟩,trivial,H5,hl,⟨kl,trivial⟩,trivial,trivial⟩ rfl (rTr1 _) (fun _=>rfl)
   · rw[decide_eq_false h2,Bool.false_or]
     obtain⟨x,hx⟩:=zM (bl s) 29 (by rw[hL];omega);have H6:∀c:UInt8,((c.toNat:Int)==((32:Nat):Int))=(some c==some (32:UInt8)):=y04 (by decide +kernel);exact y00 (vals:=[.string s]) hG (T:=tTs true false [(.eql,.sym 3,u8 32,lB ((bl s)[29]?==some 32))] [(.sym 0,lI 29,.sym 3)] sTs (cTr _)) ⟨⟨y0X (a:=s.size) (c:=29) (k:=.i64) (fun _=>rfl) (fun _=>rfl) (by simp;omega),y0R (a:=s.size) (c:=29) (k:=.i64) (fun _=>rfl) (fun _=>rfl) (by simp;omega),y0R (a:=(byN (bl s) 29:Int)) (c:=((32:Nat):Int)) (k:=.u8) (fun _=>rfl) (fun _=>rfl) (by unfold byN;rw[hx];exact H6 x),trivial⟩,
      ⟨⟨s,29,.i64,fun _=>rfl,fun _=>rfl,by omega,fun _=>by rw[←y8s s 29 (by omega)];rfl⟩,trivial⟩,H5,hl,⟨kl,trivial⟩,trivial,trivial⟩ rfl (rTr2 _ _) (fun _=>rfl)
 · rw[decide_eq_false h,Bool.false_and]
   exact y00 (vals:=[.string s]) hG (T:=tTs false false [] [] [] []) ⟨⟨y0X (a:=s.size) (c:=29) (k:=.i64) (fun _=>rfl) (fun _=>rfl) (by simp;omega),y0R (a:=s.size) (c:=29) (k:=.i64) (fun _=>rfl) (fun _=>rfl) (by simp;omega),trivial⟩,trivial,trivial,hl,trivial,trivial,trivial⟩ rfl rTr0 (fun _=>rfl)
theorem yDU(R:List Pc ⊕ Nat)(b:ByteArray)(X:(Nat×List Pc) ⊕ Nat)(h:R=match X with | .inl (st,l)=>if st=1 then .inr b.size else .inl l | .inr a=>.inr a):(∀a,X=.inr a→R=.inr a)∧(∀st l,X=.inl (st,l)→st=1→R=.inr b.size)∧(∀st l,X=.inl (st,l)→st≠1→R=.inl l):=
 ⟨fun a e=>by rw[h,e],fun st l e h1=>by rw[h,e];exact if_pos h1,fun st l e h1=>by rw[h,e];exact if_neg h1⟩
theorem y9N(b:ByteArray)(w:World)(hG:GW w)(hs:b.size≤1000):Calls prog 35 #[.string b] w (RefR (srtM b) w):=by
 have HL:Hid ((bl b).length=b.size):=zJ b;obtain⟨L,hL⟩:∃L,L=lnF (bl b) 0:=⟨_,rfl⟩;have k1:=y2E b w (by omega);have Hw:=y1X b;obtain⟨R,hR⟩:∃R,R=srtM b:=⟨_,rfl⟩;rw[←hR];rw[←hL]at k1 Hw;unfold srtM at hR;obtain⟨X,hX⟩:∃X,X=walkS srtS b 0 [] (lnF (bl b) 0):=⟨_,rfl⟩;rw[←hX]at hR;obtain⟨x1,x2,x3⟩:=yDU R b X hR;have K1:=z7 k1;have K2:=z7 (fun(s:ByteArray) (w':World) (h:Below w.heap.size w w') (hz:s.size≤1000)=>yBv s w' (hG.bel h) (by omega));have K3:=z7 (fun(s:ByteArray) (w':World) (hz:s.size≤1000)=>yDs s w' (by omega));have HX:=z7 hX;have Hy:=z7 hL;have X1:=z7 x1;have X2:=z7 x2;have X3:=z7 x3;clear k1 hR hL hG hX x1 x2 x3
 go_enter func35,ntmps35
 go_wp2_with (go_at_call 74;(with_reducible refine(K1.out).mono ?_);rintro e w1 ⟨v,rfl,Hm,Ht⟩;obtain⟨a1,c1,rfl⟩:=zL Hm)
 have HR:=z7 (zm Hm);have Ho:=z7 Ht;clear Hm Ht
 go_loopw [4,6,7] (fun v sv iv wr=>∃(k a st:Nat) (A:List Pc),sv=.int .i64 (st:Int)∧iv=.int .i64 (k:Int)∧st≤2∧a≤b.size∧Hid (L.drop k=lnF (bl b) a)∧Hid (X=walkS srtS b st A (lnF (bl b) a))∧Hid (wr.ownsRow w1.heap.size 73 3 v A.length (pcC A))∧Hid (Below w1.heap.size w1 wr)∧A.length≤3*a) (fun _ _ iv _=>L.length-(intOf iv).toNat)
 case atStart=>exact⟨0,0,0,[],rfl,rfl,by decide,zD,Hy,HX,z7 (World.ownsRow_nil _ _ _ _),z7 z8,zD⟩
 case round=>
  obtain⟨k,a,st,A,rfl,rfl,Hz,Hv,HD,HA,HO,HB,kA⟩:=hrel;by_cases Hs:a<b.size
  · obtain⟨E,hE⟩:∃E,E=nxE (bl b) a:=⟨_,rfl⟩
    obtain⟨D,hD⟩:∃D,D=nxB (bl b) E:=⟨_,rfl⟩;have Hf:=zp (bl b) a (by rw[HL.out];exact Hs);have e1:a≤E:=by rw[hE];exact y1w _ _
    have e2:E≤b.size:=by rw[hE,←HL.out];exact y2Z _ _ (by rw[HL.out];exact Hv)
    have e3:E≤D:=by rw[hD];exact y35 _ _
    have e4:D≤b.size:=by rw[hD,←HL.out];exact y3o _ _ (by rw[HL.out];exact e2)
    have e5:a<D:=by rw[hD,hE];exact y58 _ _ (by rw[HL.out];exact Hs)
    rw[←hE,←hD]at Hf;obtain⟨hp,hd,HQ⟩:=y3D (HD.out.trans Hf);have H5:=HA.out;rw[Hf]at H5;unfold walkS at H5;obtain⟨g,o,c',e,_⟩:=y0D HR.out _ _ (y0H b L k _ hp 0 _ rfl);simp only[Value.slice.injEq]at e;obtain⟨rfl,_,rfl⟩:=e;have hw:∀w' (h:Below w1.heap.size w1 w'),_:=fun w' h=>y1T (HR.out.keep h) k (a,E,D) hp
    obtain⟨S,hS⟩:∃S,S=b.extract a E:=⟨_,rfl⟩;have ky:S.size=E-a:=by rw[hS,zG];omega
    have Hq:=y7E b E D e3 e4;obtain⟨N,hN⟩:∃N,N=b.extract E D:=⟨_,rfl⟩;have kz:N.size=D-E:=by rw[hN,zG];omega
    simp only at hw;rw[←hN]at Hq;rw[←hS]at H5;simp only[←hS,←hN]at hw;rw[←hN,←Hq]at H5;have HW:=z7 hw;have Hn:=z7 (Ho.out.trans (HB.out.mono Ho.out.size));obtain⟨p0,p1,p2⟩:=HW.out wr HB.out;have z1:=HB.out.size;have Hh:=z7 hd;obtain⟨va,vc,rfl⟩:=zL HO.out;have Hl:A.length<1000000:=by omega
    have Hp:∀x:Pc,(A ++ [x]).length<1000000:=fun x=>by rw[zH];simp;omega
    have KT:=z7 (fun w' h=>K2.out S w' h (by omega));have KD:=z7 (fun w'=>K3.out S w' (by omega));clear hw hp hd Hf Hq hN hS hE hD;have Hu:(st=1∧timesL (bl S)=true∧srtS st S=some (2,[mkP S]))∨(st=1∧timesL (bl S)=false∧srtS st S=none)∨(st=0∧S.size=0∧srtS st S=some (0,[]))∨(st=2∧S.size=0∧srtS st S=some (0,[])) ∨
     (st=2∧S.size≠0∧srtS st S=some (2,[txP teN S]))∨(st=0∧S.size≠0∧dgsL (bl S)=true∧srtS st S=some (1,[mkP S]))∨(st=0∧S.size≠0∧dgsL (bl S)=false∧srtS st S=none):=by
     unfold srtS;by_cases h1:st=1
     · cases ht:timesL (bl S)with
       | true=>exact .inl ⟨h1,rfl,by rw[if_pos h1,if_pos rfl]⟩
       | false=>exact .inr (.inl ⟨h1,rfl,by rw[if_pos h1,if_neg (by decide)]⟩)
     · by_cases h0:S.size=0
       · rcases(show st=0∨st=2 by omega)with h|h
         · exact .inr (.inr (.inl ⟨h,h0,by rw[if_neg h1,if_pos h0]⟩))
         · exact .inr (.inr (.inr (.inl ⟨h,h0,by rw[if_neg h1,if_pos h0]⟩)))
       · by_cases h2:st=2
         · exact .inr (.inr (.inr (.inr (.inl ⟨h2,h0,by rw[if_neg h1,if_neg h0,if_pos h2]⟩))))
         · cases ht:dgsL (bl S)with
           | true=>exact .inr (.inr (.inr (.inr (.inr (.inl ⟨by omega,h0,rfl,by rw[if_neg h1,if_neg h0,if_neg h2,if_pos rfl]⟩)))))
           | false=>exact .inr (.inr (.inr (.inr (.inr (.inr ⟨by omega,h0,rfl,by rw[if_neg h1,if_neg h0,if_neg h2,if_neg (by decide)]⟩)))))
    rcases Hu with⟨rfl,ht,Hc⟩|⟨rfl,ht,Hc⟩|⟨rfl,h0,Hc⟩|⟨rfl,h0,Hc⟩|⟨rfl,h0,Hc⟩|⟨rfl,h0,ht,Hc⟩|⟨rfl,h0,ht,Hc⟩
    · have Hr:1≤S.size:=by
       rw[←zJ];cases hb:bl S with
       | nil=>rw[hb]at ht;exact absurd ht (by decide)
       | cons x r=>simp
      have KT0:=KT.out;rw[ht]at KT0;have KT:=z7 KT0;clear KT0 ht;rw[Hc]at H5;simp only at H5;clear Hc;by_cases H9:N.size=0
      · obtain⟨n1,n2,n3⟩:=y2W N H9
        rw[y5C N H9,List.append_nil]at H5;have Hb:=z7 H5;clear H5 H9
        go_wp2_with (first
         | (go_at_call 78;refine(zY (.slice va A.length vc) A w1.heap.size S w2 Hi Hl (H7).size).mono ?_;rintro e w3 ⟨⟨v3,rfl,H8⟩,Hg⟩;have H6:=(H7).trans Hg;obtain⟨r0,r1,r2⟩:=HW.out w3 H6)
         | (go_at_call 79;refine(KT.out _ Hn.out).mono ?_;rintro e w2 ⟨rfl,He⟩;have H7:=HB.out.trans (He.mono HB.out.size);have Hi:=zK HO.out He;obtain⟨q0,q1,q2⟩:=HW.out w2 H7)
         | fail)
        go_roundw
        case rel=>exact⟨k+1,D,2,(A ++ [mkP S]),rfl,by first|omega|go_num,by decide,e4,Hh,Hb,z7 (H8),z7 (H6),by first|omega|(simp only[zH,List.length_cons,List.length_nil];omega)⟩
        case measure=>simp[intOf];omega
      · obtain⟨n1,n2,n3⟩:=y0l N H9
        rw[y2i N H9]at H5;have Hb:=z7 H5;clear H5 H9
        go_wp2_with (first
         | (go_at_call 78;refine(zY v3 (A ++ [mkP S]) w1.heap.size N w3 H8 (Hp _) (H6).size).mono ?_;rintro e w4 ⟨⟨v4,rfl,Ha⟩,Hk⟩;have Hd:=(H6).trans Hk)
         | (go_at_call 78;refine(zY (.slice va A.length vc) A w1.heap.size S w2 Hi Hl (H7).size).mono ?_;rintro e w3 ⟨⟨v3,rfl,H8⟩,Hg⟩;have H6:=(H7).trans Hg;obtain⟨r0,r1,r2⟩:=HW.out w3 H6)
         | (go_at_call 79;refine(KT.out _ Hn.out).mono ?_;rintro e w2 ⟨rfl,He⟩;have H7:=HB.out.trans (He.mono HB.out.size);have Hi:=zK HO.out He;obtain⟨q0,q1,q2⟩:=HW.out w2 H7)
         | fail)
        go_roundw
        case rel=>exact⟨k+1,D,2,((A ++ [mkP S]) ++ [mkP N]),rfl,by first|omega|go_num,by decide,e4,Hh,Hb,z7 (Ha),z7 (Hd),by first|omega|(simp only[zH,List.length_cons,List.length_nil];omega)⟩
        case measure=>simp[intOf];omega
    · have KT0:=KT.out
      rw[ht]at KT0;have KT:=z7 KT0;clear KT0 ht;rw[Hc]at H5;simp only at H5;have Hb:=z7 (X1.out _ H5);clear H5 Hc
      go_upto_region 15 with(go_at_call 79;refine(KT.out _ Hn.out).mono ?_;rintro e w2 ⟨rfl,He⟩;have H7:=HB.out.trans (He.mono HB.out.size);have Hi:=zK HO.out He;obtain⟨q0,q1,q2⟩:=HW.out w2 H7)
      go_region
      go_wp2
      go_ret2
      exact⟨(Hn.out.trans (He.mono Hn.out.size)).drew,.inl ⟨a,Hb.out,rfl⟩⟩
    · obtain⟨s1,s2,s3⟩:=y2W S h0
      clear h0;rw[Hc]at H5;simp only at H5;clear Hc;by_cases H9:N.size=0
      · obtain⟨n1,n2,n3⟩:=y2W N H9
        rw[y5C N H9,List.append_nil]at H5;rw[List.append_nil]at H5;have Hb:=z7 H5;clear H5 H9
        go_wp2_with (first
         | fail)
        go_roundw
        case rel=>exact⟨k+1,D,0,A,rfl,by first|omega|go_num,by decide,e4,Hh,Hb,z7 (HO.out),z7 (HB.out),by first|omega|(simp only[zH,List.length_cons,List.length_nil];omega)⟩
        case measure=>simp[intOf];omega
      · obtain⟨n1,n2,n3⟩:=y0l N H9
        rw[y2i N H9]at H5;rw[List.append_nil]at H5;have Hb:=z7 H5;clear H5 H9
        go_wp2_with (first
         | (go_at_call 78;refine(zY (.slice va A.length vc) A w1.heap.size N wr HO.out Hl (HB.out).size).mono ?_;rintro e w4 ⟨⟨v4,rfl,Ha⟩,Hk⟩;have Hd:=(HB.out).trans Hk)
         | fail)
        go_roundw
        case rel=>exact⟨k+1,D,0,(A ++ [mkP N]),rfl,by first|omega|go_num,by decide,e4,Hh,Hb,z7 (Ha),z7 (Hd),by first|omega|(simp only[zH,List.length_cons,List.length_nil];omega)⟩
        case measure=>simp[intOf];omega
    · obtain⟨s1,s2,s3⟩:=y2W S h0
      clear h0;rw[Hc]at H5;simp only at H5;clear Hc;by_cases H9:N.size=0
      · obtain⟨n1,n2,n3⟩:=y2W N H9
        rw[y5C N H9,List.append_nil]at H5;rw[List.append_nil]at H5;have Hb:=z7 H5;clear H5 H9
        go_wp2_with (first
         | fail)
        go_roundw
        case rel=>exact⟨k+1,D,0,A,rfl,by first|omega|go_num,by decide,e4,Hh,Hb,z7 (HO.out),z7 (HB.out),by first|omega|(simp only[zH,List.length_cons,List.length_nil];omega)⟩
        case measure=>simp[intOf];omega
      · obtain⟨n1,n2,n3⟩:=y0l N H9
        rw[y2i N H9]at H5;rw[List.append_nil]at H5;have Hb:=z7 H5;clear H5 H9
        go_wp2_with (first
         | (go_at_call 78;refine(zY (.slice va A.length vc) A w1.heap.size N wr HO.out Hl (HB.out).size).mono ?_;rintro e w4 ⟨⟨v4,rfl,Ha⟩,Hk⟩;have Hd:=(HB.out).trans Hk)
         | fail)
        go_roundw
        case rel=>exact⟨k+1,D,0,(A ++ [mkP N]),rfl,by first|omega|go_num,by decide,e4,Hh,Hb,z7 (Ha),z7 (Hd),by first|omega|(simp only[zH,List.length_cons,List.length_nil];omega)⟩
        case measure=>simp[intOf];omega
    · have Hr:1≤S.size:=by omega
      obtain⟨s1,s2,s3⟩:=y0l S h0;clear h0;rw[Hc]at H5;simp only at H5;clear Hc;by_cases H9:N.size=0
      · obtain⟨n1,n2,n3⟩:=y2W N H9
        rw[y5C N H9,List.append_nil]at H5;have Hb:=z7 H5;clear H5 H9
        go_wp2_with (first
         | (go_at_call 80;refine(y06 (.slice va A.length vc) A w1.heap.size teN S wr HO.out Hl (HB.out).size).mono ?_;rintro e w3 ⟨⟨v3,rfl,H8⟩,Hg⟩;have H6:=(HB.out).trans Hg;obtain⟨r0,r1,r2⟩:=HW.out w3 H6)
         | fail)
        go_roundw
        case rel=>exact⟨k+1,D,2,(A ++ [txP teN S]),rfl,by first|omega|go_num,by decide,e4,Hh,Hb,z7 (H8),z7 (H6),by first|omega|(simp only[zH,List.length_cons,List.length_nil];omega)⟩
        case measure=>simp[intOf];omega
      · obtain⟨n1,n2,n3⟩:=y0l N H9
        rw[y2i N H9]at H5;have Hb:=z7 H5;clear H5 H9
        go_wp2_with (first
         | (go_at_call 78;refine(zY v3 (A ++ [txP teN S]) w1.heap.size N w3 H8 (Hp _) (H6).size).mono ?_;rintro e w4 ⟨⟨v4,rfl,Ha⟩,Hk⟩;have Hd:=(H6).trans Hk)
         | (go_at_call 80;refine(y06 (.slice va A.length vc) A w1.heap.size teN S wr HO.out Hl (HB.out).size).mono ?_;rintro e w3 ⟨⟨v3,rfl,H8⟩,Hg⟩;have H6:=(HB.out).trans Hg;obtain⟨r0,r1,r2⟩:=HW.out w3 H6)
         | fail)
        go_roundw
        case rel=>exact⟨k+1,D,2,((A ++ [txP teN S]) ++ [mkP N]),rfl,by first|omega|go_num,by decide,e4,Hh,Hb,z7 (Ha),z7 (Hd),by first|omega|(simp only[zH,List.length_cons,List.length_nil];omega)⟩
        case measure=>simp[intOf];omega
    · have Hr:1≤S.size:=by omega
      obtain⟨s1,s2,s3⟩:=y0l S h0;clear h0;have KD0:=KD.out;rw[ht]at KD0;have KD:=z7 KD0;clear KD0 ht;rw[Hc]at H5;simp only at H5;clear Hc;by_cases H9:N.size=0
      · obtain⟨n1,n2,n3⟩:=y2W N H9
        rw[y5C N H9,List.append_nil]at H5;have Hb:=z7 H5;clear H5 H9
        go_wp2_with (first
         | (go_at_call 78;refine(zY (.slice va A.length vc) A w1.heap.size S w2 Hi Hl (H7).size).mono ?_;rintro e w3 ⟨⟨v3,rfl,H8⟩,Hg⟩;have H6:=(H7).trans Hg;obtain⟨r0,r1,r2⟩:=HW.out w3 H6)
         | (go_at_call 77;refine(KD.out _).mono ?_;rintro e w2 ⟨rfl,He⟩;have H7:=HB.out.trans (He.mono HB.out.size);have Hi:=zK HO.out He;obtain⟨q0,q1,q2⟩:=HW.out w2 H7)
         | fail)
        go_roundw
        case rel=>exact⟨k+1,D,1,(A ++ [mkP S]),rfl,by first|omega|go_num,by decide,e4,Hh,Hb,z7 (H8),z7 (H6),by first|omega|(simp only[zH,List.length_cons,List.length_nil];omega)⟩
        case measure=>simp[intOf];omega
      · obtain⟨n1,n2,n3⟩:=y0l N H9
        rw[y2i N H9]at H5;have Hb:=z7 H5;clear H5 H9
        go_wp2_with (first
         | (go_at_call 78;refine(zY v3 (A ++ [mkP S]) w1.heap.size N w3 H8 (Hp _) (H6).size).mono ?_;rintro e w4 ⟨⟨v4,rfl,Ha⟩,Hk⟩;have Hd:=(H6).trans Hk)
         | (go_at_call 78;refine(zY (.slice va A.length vc) A w1.heap.size S w2 Hi Hl (H7).size).mono ?_;rintro e w3 ⟨⟨v3,rfl,H8⟩,Hg⟩;have H6:=(H7).trans Hg;obtain⟨r0,r1,r2⟩:=HW.out w3 H6)
         | (go_at_call 77;refine(KD.out _).mono ?_;rintro e w2 ⟨rfl,He⟩;have H7:=HB.out.trans (He.mono HB.out.size);have Hi:=zK HO.out He;obtain⟨q0,q1,q2⟩:=HW.out w2 H7)
         | fail)
        go_roundw
        case rel=>exact⟨k+1,D,1,((A ++ [mkP S]) ++ [mkP N]),rfl,by first|omega|go_num,by decide,e4,Hh,Hb,z7 (Ha),z7 (Hd),by first|omega|(simp only[zH,List.length_cons,List.length_nil];omega)⟩
        case measure=>simp[intOf];omega
    · have Hr:1≤S.size:=by omega
      obtain⟨s1,s2,s3⟩:=y0l S h0;clear h0;have KD0:=KD.out;rw[ht]at KD0;have KD:=z7 KD0;clear KD0 ht;rw[Hc]at H5;simp only at H5;have Hb:=z7 (X1.out _ H5);clear H5 Hc
      go_upto_region 10 with(go_at_call 77;refine(KD.out _).mono ?_;rintro e w2 ⟨rfl,He⟩;have H7:=HB.out.trans (He.mono HB.out.size);have Hi:=zK HO.out He;obtain⟨q0,q1,q2⟩:=HW.out w2 H7)
      go_region
      go_wp2
      go_ret2
      exact⟨(Hn.out.trans (He.mono Hn.out.size)).drew,.inl ⟨a,Hb.out,rfl⟩⟩
  · have kx:a=b.size:=by omega
    have Hj:=y0s (bl b) a (by rw[HL.out];omega);have H5:=HA.out;rw[Hj]at H5;have hd:=HD.out;rw[Hj]at hd;have k9:L.length≤k:=by
     rcases Nat.lt_or_ge k L.length with h|h
     · rw[List.drop_eq_getElem_cons h]at hd;cases hd
     · exact h
    unfold walkS at H5;by_cases h1:st=1
    · have Hb:=z7 (X2.out _ _ H5 h1)
      subst h1;clear H5 hd Hj
      go_wp2
      go_ret2
      exact⟨Ho.out.trans (HB.out.mono Ho.out.size),.inl ⟨b.size,Hb.out,rfl⟩⟩
    · have Hb:=z7 (X3.out _ _ H5 h1)
      have Hc:((st:Int)==1)=false:=by rw[Y2];omega
      clear H5 hd Hj
      go_wp2
      go_ret2
      exact⟨Ho.out.trans (HB.out.mono Ho.out.size),.inr ⟨A,_,Hb.out,rfl,zb HO.out Ho.out.size⟩⟩
theorem yDM(l:List ByteArray)(k:Nat)(t:ByteArray)(h:l[k]?=some t):(scells l)[k]?=some (.string t):=by unfold scells;rw[List.getElem?_map,h];rfl
theorem y9P{w:World}{g o cap n:Nat}{l:List ByteArray}(h:Row w (.slice (some ⟨g,o,none⟩) n cap) n (scells l))(k:Nat)(t:ByteArray)(hk:l[k]?=some t):w.cell? ⟨g,o+k,none⟩=some (.string t):=by
 obtain⟨g',o',c',e,hc⟩:=y0D h _ _ (yDM l k t hk);simp only[Value.slice.injEq,Option.some.injEq,Addr.mk.injEq]at e;obtain⟨⟨rfl,rfl,_⟩,_,_⟩:=e;exact hc
theorem y70{w:World}{a:Option Addr}{n c:Nat}{l:List ByteArray}(h:Row w (.slice a n c) n (scells l))(k:Nat)(t:ByteArray)(hk:l[k]?=some t):∃g o,a=some ⟨g,o,none⟩:=by
 obtain⟨g',o',c',e,hc⟩:=y0D h _ _ (yDM l k t hk);simp only[Value.slice.injEq]at e;exact⟨g',o',e.1⟩
theorem y8w{s:ByteArray}{l:List UInt8}(v:Bool)(h:(bl s==l)=v):(s.toList==l)=v:=by rw[ByteArray.toList_eq];exact h
theorem yBy(s:ByteArray)(n:Nat)(F:List ByteArray)(fv:Value)(B:Nat)(w:World)(hF:w.ownsRow B 9 1 fv F.length (scells F))(hs:s.size≤1000)(hn:n≤s.size)(ky:F.length≤1000001):
 Calls prog 85 #[.string s,.int .i64 (n:Int),fv] w (EvP (evP (some F) (s.extract 0 n) (s.extract n s.size)) w):=by
 obtain⟨R,hR⟩:∃R,R=evP (some F) (s.extract 0 n) (s.extract n s.size):=⟨_,rfl⟩;rw[←hR];obtain⟨fa,fc,rfl⟩:=zL hF;obtain⟨V,hV⟩:∃V,V=s.extract n s.size:=⟨_,rfl⟩;obtain⟨h,hh⟩:∃h,h=s.extract 0 n:=⟨_,rfl⟩;have k9:V.size=s.size-n:=by rw[hV,zG];omega
 rw[←hV,←hh]at hR;obtain⟨P,hP⟩:∃P,P=Lib.splitB coB 0 (F.length-1) V:=⟨_,rfl⟩;have Hv:∀p∈P,p.size≤1000:=fun p hp=>by have:=y19 _ V p (by rw[hP]at hp;exact hp);omega
 have kc:=yAd V F.length w (by omega) ky;rw[←hP]at kc;have kJ:P.length≤1001:=by
  have h1:=Lib.splitB_length_le coB 0 (F.length-1) V;have h2:P.length≤Lib.countB V coB+1:=by
   rw[hP];rcases Nat.lt_or_ge (F.length-1) (Lib.countB V coB)with h|h
   · rw[←hP];rw[←hP]at h1;omega
   · rw[y30 V.size _ V zA h,Lib.splitB_all coB (by decide) 0 _ V rfl];exact zA
  have h3:=y0i V;omega
 have H7:R=(evG false F P).map (mkP h :: ·):=by
  rw[hR];show(match evG false F (cutN V F.length)with|some l=>some (mkP h::l)|none=>none)=_;rw[yA4,←hP];cases evG false F P<;>rfl
 have i1:(n:Int)≤(s.size:Int):=by omega
 have i2:(0:Int)≤(n:Int):=by omega
 have kx:1≤P.length:=by
  rw[hP];cases F.length-1 with
  | zero=>rw[Lib.splitB_zero];exact zA
  | succ k=>
   rcases y0W V with hm|⟨i,hm,_,_⟩
   · rw[Lib.splitB_miss _ _ _ _ hm];exact zA
   · rw[Lib.splitB_hit _ _ _ _ i hm];simp
 have Hr:1≤F.length→P.length≤F.length:=fun h=>by rw[hP];have:=Lib.splitB_length_le coB 0 (F.length-1) V;omega
 rw[hV]at kc;rw[hh]at H7;have KC:=z7 kc;have HF:=z7 hF;have kA:=z7 Hv;clear kc hF Hv hP hV hh hR k9 h V;by_cases Hm:F.length=0
 · have Hl:R=none:=by
    rw[H7,List.eq_nil_of_length_eq_zero Hm];cases P with
    | nil=>simp at kx
    | cons p ps=>rfl
   subst Hl;have hz:((F.length:Int)==0)=true:=by rw[Hm];rfl
   clear H7 Hm
   go_enter func85,ntmps85
   go_wp2_with (go_at_call 83;refine(KC.out).mono ?_;rintro e w1 ⟨⟨pv,rfl,H8⟩,Hg⟩;obtain⟨pa,pc,rfl⟩:=zL H8)
   go_ret2
   exact⟨Hg,.inl ⟨rfl,_,rfl⟩⟩
 · have hz:((F.length:Int)==0)=false:=by rw[Y2];omega
   have kF:¬(F.length:Int)=0:=by omega
   by_cases Ht:P.length=F.length
   · have kz:Hid (R=(evG (decide (0<0)) (F.drop 0) (P.drop 0)).map (([] ++ [mkP (s.extract 0 n)]) ++ ·)):=z7 H7
     have hq:((P.length:Int) != (F.length:Int))=false:=by rw[Ht];simp
     have Hz:(P.length:Int)=(F.length:Int):=by omega
     clear H7 Hm Hr
     go_enter func85,ntmps85
     go_wp2_with (first
      | (go_at_call 83;refine(KC.out).mono ?_;rintro e w1 ⟨⟨pv,rfl,H8⟩,Hg⟩;obtain⟨pa,pc,rfl⟩:=zL H8;have KP:=z7 (zY (.slice none 0 0) [] w1.heap.size (s.extract 0 n) w1 (World.ownsRow_nil _ _ _ _) (by decide) zA))
      | (go_at_call 78;refine(KP.out).mono ?_;rintro e w2 ⟨⟨v2,rfl,He⟩,Hu⟩))
     have Hw:=z7 (zm H8);have Hy:Hid (Row w1 (.slice fa F.length fc) F.length (scells F)):=z7 ((zm HF.out).keep Hg);have Hi:=z7 Hg;have kC:=z7 He;have kD:=z7 Hu;clear H8 Hg He Hu KP
     go_loopw [9,10] (fun v iv wr=>∃(i:Nat) (A:List Pc),iv=.int .i64 (i:Int)∧i≤P.length∧Hid (R=(evG (decide (0<i)) (F.drop i) (P.drop i)).map (A ++ ·))∧Hid (wr.ownsRow w1.heap.size 73 3 v A.length (pcC A))∧Hid (Below w1.heap.size w1 wr)∧A.length≤1+2*i) (fun _ iv _=>P.length-(intOf iv).toNat)
     case atStart=>exact⟨0,[] ++ [mkP (s.extract 0 n)],rfl,zD,kz,kC,kD,by simp⟩
     case round=>
      obtain⟨i,A,rfl,hi,HR,HO,HB,kK⟩:=hrel;obtain⟨va,vc,rfl⟩:=zL HO.out;by_cases Hq:i<P.length
      · obtain⟨p,hp⟩:=zM P i Hq
        obtain⟨f,hf⟩:=zM F i (by omega);have kH:=kA.out p (List.mem_of_getElem? hp);obtain⟨pg,po,rfl⟩:=y70 Hw.out i p hp;obtain⟨fg,fo,rfl⟩:=y70 Hy.out i f hf;have c1:∀w',Below w1.heap.size w1 w'→_:=fun w' hb=>y9P (Hw.out.keep hb) i p hp
        have c2:∀w',Below w1.heap.size w1 w'→_:=fun w' hb=>y9P (Hy.out.keep hb) i f hf
        have C1:=z7 c1;have C2:=z7 c2;have q1:=c1 wr HB.out;have q2:=c2 wr HB.out;have Hj:A.length<1000000:=by omega
        have Hs:∀x:Pc,(A ++ [x]).length<1000000:=fun x=>by rw[zH];simp;omega
        have e0:(0:Int)≤(i:Int):=by omega
        have e1:(i:Int)<(P.length:Int):=by omega
        have e2:(i:Int)<(F.length:Int):=by omega
        have KL:=z7 (fun w'=>y1t p ⟨⟨mo1⟩⟩ w' (by omega) (by decide));obtain⟨ts,Hn⟩:∃ts,(bl f==staN)=ts:=⟨_,rfl⟩;obtain⟨te,Ho⟩:∃te,(bl f==endN)=te:=⟨_,rfl⟩;have g1:(f.toList == [83,116,97,114,116])=ts:=y8w ts Hn;have g2:(f.toList == [69,110,100])=te:=y8w te Ho;have HQ:((bl f=staN∨bl f=endN)∧(ts=true∨(ts=false∧te=true)))∨(¬(bl f=staN∨bl f=endN)∧ts=false∧te=false):=by
         by_cases a1:bl f=staN
         · exact .inl ⟨.inl a1,.inl (by rw[←Hn,a1];rfl)⟩
         · have b1:ts=false:=by rw[←Hn,Y2];exact a1
           by_cases a2:bl f=endN
           · exact .inl ⟨.inr a2,.inr ⟨b1,by rw[←Ho,a2];rfl⟩⟩
           · exact .inr ⟨by rintro(h|h)<;>contradiction,b1,by rw[←Ho,Y2];exact a2⟩
        have Hc:(¬(0:Int)<(i:Int)∧¬0<i)∨((0:Int)<(i:Int)∧0<i):=by omega
        clear c1 c2 Hn Ho;rcases HQ with⟨hm,ho⟩|⟨hm,rfl,rfl⟩
        · cases hl:zU (bl p) mo1 with
          | false=>
           have hx:evX f p=none:=by unfold evX;rw[if_pos hm,hl];rfl
           have Hl:R=none:=by rw[HR.out,y7X hf hp hx];rfl
           subst Hl;have kl:=KL.out;rw[show bl (⟨⟨mo1⟩⟩:ByteArray)=mo1 from rfl,hl]at kl;have KL:=z7 kl;clear hx hf hp hm hl kl;rcases Hc with⟨k0,Hc⟩|⟨k0,Hc⟩
           all_goals
            rcases ho with rfl|⟨rfl,rfl⟩
            all_goals
             go_wp2_with (first
              | (go_at_call 78;refine(zY (.slice va A.length vc) A w1.heap.size coB wr HO.out Hj HB.out.size).mono ?_;rintro e w3 ⟨⟨v3,rfl,Hb⟩,Hk⟩;have H5:=HB.out.trans Hk;have q3:=C1.out w3 H5;have q4:=C2.out w3 H5)
              | (go_at_call 157;refine(KL.out _).mono ?_;rintro e w4 ⟨rfl,Hf⟩))
             go_ret2
             exact⟨by first|exact Hi.out.trans ((HB.out.trans (Hf.mono HB.out.size)).mono Hi.out.size)|exact Hi.out.trans ((H5.trans (Hf.mono H5.size)).mono Hi.out.size),.inl ⟨rfl,_,rfl⟩⟩
          | true=>
           have hx:evX f p=some (mkP p):=by unfold evX;rw[if_pos hm,if_pos hl]
           have H7:=HR.out;rw[y2I hf hp hx]at H7;have kl:=KL.out;rw[show bl (⟨⟨mo1⟩⟩:ByteArray)=mo1 from rfl,hl]at kl;have KL:=z7 kl;clear hx hf hp hm hl kl;rcases Hc with⟨k0,Hc⟩|⟨k0,Hc⟩
           · rw[decide_eq_false Hc,if_neg (by decide),List.append_nil]at H7
             have Hh:=z7 H7;clear H7;rcases ho with rfl|⟨rfl,rfl⟩
             all_goals
              go_wp2_with (first
               | (go_at_call 78;refine(zY (.slice va A.length vc) A w1.heap.size p w4 Hp Hj Ha.size).mono ?_;rintro e w5 ⟨⟨v5,rfl,H6⟩,Hd⟩;have H9:=Ha.trans Hd)
               | (go_at_call 157;refine(KL.out _).mono ?_;rintro e w4 ⟨rfl,Hf⟩;have Ha:=HB.out.trans (Hf.mono HB.out.size);have q5:=C1.out w4 Ha;have Hp:=zK HO.out Hf))
              go_roundw
              case rel=>exact⟨i+1,A ++ [mkP p],by first|omega|go_num,by omega,by rw[decide_eq_true (Nat.succ_pos i)];exact Hh,z7 H6,z7 H9,by rw[zH];simp;omega⟩
              case measure=>simp[intOf];omega
           · rw[decide_eq_true Hc,if_pos rfl]at H7
             have Hh:=z7 H7;clear H7;rcases ho with rfl|⟨rfl,rfl⟩
             all_goals
              go_wp2_with (first
               | (go_at_call 78;refine(zY v3 (A ++ [mkP coB]) w1.heap.size p w4 Hp (Hs _) Ha.size).mono ?_;rintro e w5 ⟨⟨v5,rfl,H6⟩,Hd⟩;have H9:=Ha.trans Hd)
               | (go_at_call 78;refine(zY (.slice va A.length vc) A w1.heap.size coB wr HO.out Hj HB.out.size).mono ?_;rintro e w3 ⟨⟨v3,rfl,Hb⟩,Hk⟩;have H5:=HB.out.trans Hk;have q3:=C1.out w3 H5;have q4:=C2.out w3 H5)
               | (go_at_call 157;refine(KL.out _).mono ?_;rintro e w4 ⟨rfl,Hf⟩;have Ha:=H5.trans (Hf.mono H5.size);have q5:=C1.out w4 Ha;have Hp:=zK Hb Hf))
              go_roundw
              case rel=>exact⟨i+1,A ++ [mkP coB] ++ [mkP p],by first|omega|go_num,by omega,by rw[decide_eq_true (Nat.succ_pos i)];exact Hh,z7 H6,z7 H9,by rw[zH,zH];simp;omega⟩
              case measure=>simp[intOf];omega
        · have hx:evX f p=some (txP f p):=by unfold evX;rw[if_neg hm]
          have H7:=HR.out;rw[y2I hf hp hx]at H7;clear hx hf hp hm;rcases Hc with⟨k0,Hc⟩|⟨k0,Hc⟩
          · rw[decide_eq_false Hc,if_neg (by decide),List.append_nil]at H7
            have Hh:=z7 H7;clear H7
            go_upto_region 14 with fail
            have KW:=z7 (fun(w':World) (hb:Below wr.heap.size wr w')=>y06 (.slice va A.length vc) A w1.heap.size f p w' (zK HO.out hb) Hj (zE HB.out.size hb.size))
            go_region_with (go_at_call 80;go_loud  (refine(KW.out _ (by first|exact(z8).drew|exact z8)).mono ?_);go_loud  (rintro e w5 ⟨⟨v5,rfl,H6⟩,Hd⟩);go_loud  (have H9:Below w1.heap.size w1 w5:=by first|exact HB.out.trans Hd|exact HB.out.drew.trans Hd))
            all_goals
             go_wp2_with fail
             go_roundw
             case rel=>exact⟨i+1,A ++ [txP f p],by first|omega|go_num,by omega,by rw[decide_eq_true (Nat.succ_pos i)];exact Hh,z7 H6,z7 H9,by rw[zH];simp;omega⟩
             case measure=>simp[intOf];omega
          · rw[decide_eq_true Hc,if_pos rfl]at H7
            have Hh:=z7 H7;clear H7
            go_upto_region 14 with(go_at_call 78;refine(zY (.slice va A.length vc) A w1.heap.size coB wr HO.out Hj HB.out.size).mono ?_;rintro e w3 ⟨⟨v3,rfl,Hb⟩,Hk⟩;have H5:=HB.out.trans Hk;have q3:=C1.out w3 H5;have q4:=C2.out w3 H5)
            have KW:=z7 (fun(w':World) (hb:Below w3.heap.size w3 w')=>y06 v3 (A ++ [mkP coB]) w1.heap.size f p w' (zK Hb hb) (Hs _) (zE H5.size hb.size))
            go_region_with (go_at_call 80;go_loud  (refine(KW.out _ (by first|exact(z8).drew|exact z8)).mono ?_);go_loud  (rintro e w5 ⟨⟨v5,rfl,H6⟩,Hd⟩);go_loud  (have H9:Below w1.heap.size w1 w5:=by first|exact H5.trans Hd|exact H5.drew.trans Hd))
            all_goals
             go_wp2_with fail
             go_roundw
             case rel=>exact⟨i+1,A ++ [mkP coB] ++ [txP f p],by first|omega|go_num,by omega,by rw[decide_eq_true (Nat.succ_pos i)];exact Hh,z7 H6,z7 H9,by rw[zH,zH];simp;omega⟩
             case measure=>simp[intOf];omega
      · have kI:i=P.length:=by omega
        have hv:R=some A:=by
         rw[HR.out,List.drop_eq_nil_of_le (by omega),List.drop_eq_nil_of_le (by omega)];show some (A ++ [])=_;rw[List.append_nil]
        have HV:=z7 hv;clear hv
        go_wp2_with fail
        go_ret2
        exact⟨Hi.out.trans (HB.out.mono Hi.out.size),.inr ⟨A,_,HV.out,rfl,zX HO.out⟩⟩
   · have Hq:P.length<F.length:=by have:=Hr (by omega);omega
     have Hl:R=none:=by rw[H7,y5U _ _ _ Hq];rfl
     subst Hl;have hq:((P.length:Int) != (F.length:Int))=true:=by rw[bne,show((P.length:Int)==(F.length:Int))=false by rw[Y2];omega];rfl
     have Hz:¬(P.length:Int)=(F.length:Int):=by omega
     clear H7 Hm Hr Ht
     go_enter func85,ntmps85
     go_wp2_with (go_at_call 83;refine(KC.out).mono ?_;rintro e w1 ⟨⟨pv,rfl,H8⟩,Hg⟩;obtain⟨pa,pc,rfl⟩:=zL H8)
     go_ret2
     exact⟨Hg,.inl ⟨rfl,_,rfl⟩⟩
def KeptB(v:Value)(w w':World):Prop:=∀k,k<w.heap.size→some k≠v.ownBlock→w'.heap[k]?=w.heap[k]?
theorem yDn(v:Value)(n:Nat)(cs:List Value)(B:Nat)(t:ByteArray)(w:World)(H6:w.ownsRow B 73 3 v n cs)(hn:n<1000000)(hB:B≤w.heap.size):
 Calls prog 78 #[v,.string t] w fun e w'=>(∃v',e=.returned v'∧w'.ownsRow B 73 3 v' (n+1) (cs ++ [.bool true,.string ⟨#[109,97,114,107]⟩,.string t]))∧Below B w w'∧KeptB v w w':=by
 obtain⟨a1,c1,rfl⟩:=zL H6;have H8:n<70368744177664:=by omega
 have H7:(n+1)*40≤140737488355328:=by omega
 go_enter func78,ntmps78
 go_wp2_with (first
  | (at_builtin;refine zP rfl _ _ 46 73 rfl underlying46 Y3 3 40 infoPc rfl (by decide) w B (.slice a1 n c1) n cs rfl H6 #[.bool true,.string ⟨#[109,97,114,107]⟩,.string t] rfl (by simp[Value.oneCell']) rfl H8 H7 hB ?_;intro v' w6 H5 Ha H9)
  | fail)
 go_ret
 exact⟨⟨_,rfl,H5⟩,Ha,H9⟩
theorem y9J(v:Value)(n:Nat)(cs:List Value)(B:Nat)(m t:ByteArray)(w:World)(H6:w.ownsRow B 73 3 v n cs)(hn:n<1000000)(hB:B≤w.heap.size):
 Calls prog 80 #[v,.string m,.string t] w fun e w'=>(∃v',e=.returned v'∧w'.ownsRow B 73 3 v' (n+1) (cs ++ [.bool false,.string m,.string t]))∧Below B w w'∧KeptB v w w':=by
 obtain⟨a1,c1,rfl⟩:=zL H6;have H8:n<70368744177664:=by omega
 have H7:(n+1)*40≤140737488355328:=by omega
 go_enter func80,ntmps80
 go_wp2_with (first
  | (at_builtin;refine zP rfl _ _ 46 73 rfl underlying46 Y3 3 40 infoPc rfl (by decide) w B (.slice a1 n c1) n cs rfl H6 #[.bool false,.string m,.string t] rfl (by simp[Value.oneCell']) rfl H8 H7 hB ?_;intro v' w6 H5 Ha H9)
  | fail)
 go_ret
 exact⟨⟨_,rfl,H5⟩,Ha,H9⟩
theorem y9u{w w':World}{B B' n m:Nat}{v fv:Value}{cs cs':List Value}(hO:w.ownsRow B 73 3 v n cs)(hF:w.ownsRow B' 9 1 fv m cs')(hk:KeptB v w w'):w'.ownsRow B' 9 1 fv m cs':=by
 refine za hF (fun k H5=>?_);rcases hF.2 with⟨rfl,_⟩|⟨g,cap,cur,rfl,_,hh,_⟩
 · simp[Value.ownBlock]at H5
 · simp only[Value.ownBlock,Option.some.injEq]at H5
   subst H5;exact hk _ (lt_of_block hh) (y0q hO hh (by decide))
structure Two (B:Nat) (w:World) (v:Value) (A:List Pc) (fv:Value) (F:List ByteArray):Prop where
 o:w.ownsRow B 73 3 v A.length (pcC A)
 f:w.ownsRow B 9 1 fv F.length (scells F)
theorem Two.bel{B:Nat}{w w':World}{v fv:Value}{A:List Pc}{F:List ByteArray}(h:Two B w v A fv F)(hb:Below w.heap.size w w'):Two B w' v A fv F:=⟨zK h.o hb,zK h.f hb⟩
theorem rputF{B:Nat}{w0:World}{v fv:Value}{A:List Pc}{F:List ByteArray}(h:Two B w0 v A fv F)(t:ByteArray)(w:World)(hb:Below w0.heap.size w0 w)(hn:A.length<1000000)(hB:B≤w0.heap.size):
 Calls prog 78 #[v,.string t] w fun e w'=>∃v',e=.returned v'∧Two B w' v' (A ++ [mkP t]) fv F∧Below B w0 w':=by
 have h2:=h.bel hb;refine(yDn v A.length (pcC A) B t w h2.o hn (zE hB hb.size)).mono ?_;rintro e w' ⟨⟨v',rfl,ho⟩,H5,hk⟩;exact⟨v',rfl,⟨by rw[zl,zH];exact ho,y9u h2.o h2.f hk⟩,(hb.mono hB).trans H5⟩
theorem yDk{B:Nat}{w0:World}{v fv:Value}{A:List Pc}{F:List ByteArray}(h:Two B w0 v A fv F)(m t:ByteArray)(w:World)(hb:Below w0.heap.size w0 w)(hn:A.length<1000000)(hB:B≤w0.heap.size):
 Calls prog 80 #[v,.string m,.string t] w fun e w'=>∃v',e=.returned v'∧Two B w' v' (A ++ [txP m t]) fv F∧Below B w0 w':=by
 have h2:=h.bel hb;refine(y9J v A.length (pcC A) B m t w h2.o hn (zE hB hb.size)).mono ?_;rintro e w' ⟨⟨v',rfl,ho⟩,H5,hk⟩;exact⟨v',rfl,⟨by rw[zl,zH];exact ho,y9u h2.o h2.f hk⟩,(hb.mono hB).trans H5⟩
def fsL(st:Sc):List ByteArray:=st.fs.getD []
theorem evP_fs(st:Sc)(h v:ByteArray):evP st.fs h v=evP (some (fsL st)) h v:=by
 unfold fsL;cases st.fs with
 | some F=>rfl
 | none=>
  show none=(match evG false [] (cutN v 0)with|some l=>some (mkP h::l)|none=>none);rw[yA4,Lib.splitB_zero]
  rfl
theorem yJ9(v u:Value)(l m:List Pc)(w:World)(hl:Row w v l.length (pcC l))(hm:Row w u m.length (pcC m))(H5:l.length≠m.length)(h1:l.length≤1073741824)(h2:m.length≤1073741824):
 Calls prog 99 #[v,u] w fun e w'=>e=.returned (.bool false)∧Below w.heap.size w w':=by
 obtain⟨a,cap,rfl,-⟩:=hl;obtain⟨a',cap',rfl,-⟩:=hm
 go_enter func99,ntmps99
 go_wp2
 go_ret
 exact⟨rfl,z8⟩
theorem yHW(v u:Value)(l:List Pc)(w:World)(hl:Row w v l.length (pcC l))(hm:Row w u l.length (pcC l))(h1:l.length≤1073741824):
 Calls prog 99 #[v,u] w fun e w'=>e=.returned (.bool true)∧Below w.heap.size w w':=by
 have HL:=z7 hl;have HM:=z7 hm;obtain⟨a,cap,rfl,-⟩:=hl;obtain⟨a',cap',rfl,-⟩:=hm
 go_enter func99,ntmps99
 go_wp2_with fail
 go_loopw [13] (fun iv wr=>∃k:Nat,iv=.int .i64 (k:Int)∧k≤l.length∧Hid (Below w.heap.size w wr)) (fun iv _=>l.length-(intOf iv).toNat)
 case atStart=>exact⟨0,rfl,zD,z7 z8⟩
 case round=>
  obtain⟨k,rfl,hk,HB⟩:=hrel;by_cases H5:k<l.length
  · obtain⟨p,hp⟩:=zM l k H5
    have hr:=HL.out.keep HB.out;have hs:=HM.out.keep HB.out;obtain⟨g,o,c',e,-⟩:=y0D hr _ _ (y34 l k p hp 0 _ rfl);simp only[Value.slice.injEq]at e;obtain⟨rfl,_,rfl⟩:=e;obtain⟨g',o',c',e,-⟩:=y0D hs _ _ (y34 l k p hp 0 _ rfl);simp only[Value.slice.injEq]at e;obtain⟨rfl,_,rfl⟩:=e;obtain⟨q0,q1,q2⟩:=y4u hr k p hp;obtain⟨r0,r1,r2⟩:=y4u hs k p hp;clear hr hs hp
    go_wp2_with fail
    go_region
    go_wp2
    go_roundw
    case rel=>exact⟨k+1,by first|omega|go_num,by omega,z7 HB.out.drew⟩
    case measure=>simp[intOf];omega
  · go_wp2
    go_ret
    exact⟨rfl,HB.out⟩
abbrev treeA(k:Int)(v:Value)(z:Int):Array Value:=#[.int .i64 k,.int .i64 0,.int .u8 0,.int .u8 0,.slice none 0 0,.string ⟨#[]⟩,.int .u8 0,.int .u64 0,.int .u32 0,.int .u32 0,.string ⟨#[]⟩,.string ⟨#[]⟩,.string ⟨#[]⟩,.int .i64 0,.slice none 0 0,.string ⟨#[]⟩,.slice none 0 0,.slice none 0 0,.string ⟨#[]⟩,.int .i64 0,.slice none 0 0,.int .i64 0,.string ⟨#[]⟩,v,.int .i64 z]
theorem blkQ{w w':World}{j:Nat}{o:Obj}(h:w.heap[j]?=some o)(hb:Below w.heap.size w w'):w'.heap[j]?=some o:=(hb.block j (Array.getElem?_eq_some_iff.1 h).1).trans h
structure TS (w:World) (cs:Array Value) (v:Value) (l:List Pc) (wr:World):Prop where
 gg:Below w.heap.size w wr
 bx:wr.heap[w.heap.size]?=some (.cells cs 71 (0,0))
 rt:wr.heap[w.heap.size+1]?=some (.cells #[.int .i64 0,.int .i64 0] 37 (0,0))
 row:Row wr v l.length (pcC l)
 gw:GW wr
theorem TS.bel{w wr:World}{cs:Array Value}{v:Value}{l:List Pc}(h:TS w cs v l wr){w':World}(hb:Below wr.heap.size wr w'):TS w cs v l w':=⟨bt h.gg hb,blkQ h.bx hb,blkQ h.rt hb,h.row.keep hb,h.gw.bel hb⟩
theorem TS.cell{w wr:World}{cs:Array Value}{v:Value}{l:List Pc}(h:TS w cs v l wr)(i:Nat)(u:Value)(hi:cs[i]?=some u):wr.cell? ⟨w.heap.size,i,none⟩=some u:=(zN h.bx i u hi).1
theorem TS.ret{w wr:World}{cs:Array Value}{v:Value}{l:List Pc}(h:TS w cs v l wr):wr.cell? ⟨w.heap.size+1,0,none⟩=some (.int .i64 0)∧wr.frozen? ⟨w.heap.size+1,0,none⟩=false∧wr.cell? ⟨w.heap.size+1,1,none⟩=some (.int .i64 0)∧wr.frozen? ⟨w.heap.size+1,1,none⟩=false:=
 ⟨(zN h.rt 0 _ rfl).1,(zN h.rt 0 _ rfl).2,(zN h.rt 1 _ rfl).1,(zN h.rt 1 _ rfl).2⟩
theorem yAO(w:World)(cs:Array Value)(v:Value)(l:List Pc)(hr:Row w v l.length (pcC l))(hG:GW w):∃W,W=(w.alloc (.cells cs 71)).alloc (.cells #[.int .i64 0,.int .i64 0] 37)∧TS w cs v l W:=by
 have H5:(w.alloc (.cells cs 71)).heap.size=w.heap.size+1:=Y4 _ _;have hb:Below w.heap.size w ((w.alloc (.cells cs 71)).alloc (.cells #[.int .i64 0,.int .i64 0] 37)):=bal (bal z8 _) _;refine⟨_,rfl,hb,?_,?_,hr.keep hb,hG.bel hb⟩
 · exact(heap_alloc_old _ _ (by rw[H5];omega)).trans (heap_alloc_new _ _)
 · rw[←H5];exact heap_alloc_new _ _
def bomB:ByteArray:=⟨#[239,187,191]⟩
def ptR(t:ByteArray)(same:Bool):Value:=
 if(scanL (bl t)).2.isNone=false then .tuple #[.string ⟨#[]⟩,.agg #[.int .i64 2,.int .i64 0]]
 else if same=false then .tuple #[.string ⟨#[]⟩,.agg #[.int .i64 5,.int .i64 0]]
 else .tuple #[.string (if Lib.hasPrefix (bl t) [239,187,191]=true then bomB++t else t),.agg #[.int .i64 0,.int .i64 0]]
theorem y7t{w wr:World}(h:Below w.heap.size w wr)(x y:Value):Below w.heap.size w ((wr.setCell ⟨w.heap.size+1,0,none⟩ x).setCell ⟨w.heap.size+1,1,none⟩ y):=(h.setCell (p:=⟨w.heap.size+1,0,none⟩) (Nat.le_succ _) x).setCell (p:=⟨w.heap.size+1,1,none⟩) (Nat.le_succ _) y
theorem yDv(k:Nat)(Hf:4≤k)(He:k<8)(v:Value)(z:Int)(l l0:List Pc)(w:World)(hG:GW w)(Ha:Row w v l.length (pcC l))(t:ByteArray)(ht:bl t=whL l)(hs:t.size≤999990)(hl:l.length≤10000000)(Hd:l0.length≤10000000)(hx:txM k t=.inl l0)(hc:l=l0∨l.length≠l0.length):
 Calls prog 41 #[.agg (treeA k v z)] w fun e w'=>e=.returned (ptR t (decide (l.length=l0.length)))∧Below w.heap.size w w':=by
 obtain⟨W,hW,C⟩:=yAO w (treeA k v z) v l Ha hG;have kw:Calls prog 96 #[v] W fun e w'=>e=.returned (.string t)∧Below W.heap.size W w':=by
  have:=yCy v l W C.row (by omega) (by rw[←ht,zJ];omega);rw[←ht]at this;exact this
 have kv:∀wr,TS w (treeA k v z) v l wr→Calls prog 97 #[.string t] wr fun e w'=>e=.returned (.bool (scanL (bl t)).2.isNone)∧Below wr.heap.size wr w':=fun wr h=>y7p t wr h.gw.tw (by omega)
 have kp:∀wr,TS w (treeA k v z) v l wr→Calls prog 98 #[.int .i64 k,.string t] wr fun e w'=>Below wr.heap.size wr w'∧∃u,e=.returned (.tuple #[u,.agg #[.int .i64 0,.int .i64 0]])∧Row w' u l0.length (pcC l0):=fun wr h=>by
  refine(y5P k Hf He t wr h.gw (by omega)).mono fun e w' hp=>?_
  unfold ParsP at hp;rw[hx]at hp;obtain⟨hb,⟨a,h1,_⟩|⟨l',u,h1,h2,h3⟩⟩:=hp
  · cases h1
  · cases h1
    exact⟨hb,u,h2,zm h3⟩
 have kb:=fun w=>y0x 0 0 w
 rw[show(!decide ((0:Int)=0))=false from rfl]at kb;have ke:∀wr u,Row wr v l.length (pcC l)→Row wr u l0.length (pcC l0)→Calls prog 99 #[u,v] wr fun e w'=>e=.returned (.bool (decide (l.length=l0.length)))∧Below wr.heap.size wr w':=fun wr u h1 h2=>by
  rcases hc with rfl|hc
  · rw[decide_eq_true rfl];exact yHW u v l wr h2 h1 (by omega)
  · rw[decide_eq_false hc];exact yJ9 u v l0 l wr h2 h1 (Ne.symm hc) (by omega) (by omega)
 have kh:∀w,Calls prog 87 #[.string t,.string ⟨#[239,187,191]⟩] w fun e w'=>e=.returned (.bool (Lib.hasPrefix (bl t) [239,187,191]))∧w'=w:=fun w=>Tryz.strings_HasPrefix t ⟨#[239,187,191]⟩ w
 have kj:∀X:World,Calls prog 90 #[.slice (some ⟨X.heap.size,0,none⟩) 2 2] (X.alloc (.cells #[.string ⟨#[239,187,191]⟩,.string t] 9)) fun e w'=>e=.returned (.string (bomB++t))∧Below X.heap.size X w':=fun X=>by
  have:=yAt X.heap.size 2 [⟨#[239,187,191]⟩,t] (X.alloc (.cells #[.string ⟨#[239,187,191]⟩,.string t] 9)) (fun j x hj=>by
   match j,hj with
   | 0,hj=>cases hj;exact World.cell?_alloc_new ..
   | 1,hj=>cases hj;exact World.cell?_alloc_new ..) (by rw[Y4];omega) zA (by simp) (by simp[zJ];omega)
  have e:(⟨(([⟨#[239,187,191]⟩,t].map bl).flatten).toArray⟩:ByteArray)=bomB++t:=by
   apply ByteArray.ext;simp[bomB,bl]
  rw[e]at this;exact this.mono fun e w' h=>⟨h.1,bt (bal z8 _) h.2⟩
 unfold ptR;generalize (scanL (bl t)).2.isNone=gv at *;generalize decide (l.length=l0.length)=ge at *;generalize Lib.hasPrefix (bl t) [239,187,191]=gh at *;have KW:=z7 kw;have KV:=z7 kv;have KP:=z7 kp;have KB:=z7 kb;have KE:=z7 ke;have KH:=z7 kh;have KJ:=z7 kj;clear kw kv kp kb ke kh kj hx hc ht Ha hG hl Hd hs;have q0:=C.cell 23 v rfl;cases gv with
 | false=>
  go_enter func41,ntmps41
  go_wp2_with fail
  rw[←hW];clear hW
  go_wp2_with (first
   | (go_at_call 96;refine(KW.out).mono ?_;rintro e1 w1 ⟨rfl,H7⟩;have C1:=C.bel H7)
   | (go_at_call 97;refine(KV.out _ C1).mono ?_;rintro e2 w2 ⟨rfl,H6⟩;have C2:=C1.bel H6;obtain⟨r0,r1,r2,r3⟩:=C2.ret))
  refine bodyPost_ret (v:=.tuple #[.string ⟨#[]⟩,.agg #[.int .i64 2,.int .i64 0]]) (by simp[results,Tryz.results41,go_sem,r0,r1,r2,r3]) rfl ?_;exact⟨rfl,y7t C2.gg _ _⟩
 | true=>
  cases ge with
  | false=>
   go_enter func41,ntmps41
   go_wp2_with fail
   rw[←hW];clear hW
   go_wp2_with (first
    | (go_at_call 96;refine(KW.out).mono ?_;rintro e1 w1 ⟨rfl,H7⟩;have C1:=C.bel H7;have q1:=C1.cell 0 _ rfl)
    | (go_at_call 97;refine(KV.out _ C1).mono ?_;rintro e2 w2 ⟨rfl,H6⟩;have C2:=C1.bel H6;have q2:=C2.cell 0 _ rfl)
    | (go_at_call 98;refine(KP.out _ C2).mono ?_;rintro e3 w3 ⟨Hc,u,rfl,hu⟩;have C3:=(C2.bel Hc).bel (bal z8 (.cells #[.int .i64 0,.int .i64 0] 37));have H9:=hu.keep (bal z8 (.cells #[.int .i64 0,.int .i64 0] 37));have m0:=Live.fresh w3 #[.int .i64 0,.int .i64 0] 37 0 _ rfl;have m1:=Live.fresh w3 #[.int .i64 0,.int .i64 0] 37 1 _ rfl;obtain⟨m0,m0'⟩:=m0;obtain⟨m1,m1'⟩:=m1)
    | (go_at_call 13;refine(KB.out _).mono ?_;rintro e4 w4 ⟨rfl,H5⟩;have C4:=C3.bel H5;have q4:=C4.cell 23 _ rfl;have H8:=H9.keep H5)
    | (go_at_call 99;refine(KE.out _ _ C4.row H8).mono ?_;rintro e5 w5 ⟨rfl,Hb⟩;have C5:=C4.bel Hb;obtain⟨r0,r1,r2,r3⟩:=C5.ret))
   refine bodyPost_ret (v:=.tuple #[.string ⟨#[]⟩,.agg #[.int .i64 5,.int .i64 0]]) (by simp[results,Tryz.results41,go_sem,r0,r1,r2,r3]) rfl ?_;exact⟨rfl,y7t C5.gg _ _⟩
  | true=>
   cases gh with
   | false=>
    go_enter func41,ntmps41
    go_wp2_with fail
    rw[←hW];clear hW
    go_wp2_with (first
     | (go_at_call 96;refine(KW.out).mono ?_;rintro e1 w1 ⟨rfl,H7⟩;have C1:=C.bel H7;have q1:=C1.cell 0 _ rfl)
     | (go_at_call 97;refine(KV.out _ C1).mono ?_;rintro e2 w2 ⟨rfl,H6⟩;have C2:=C1.bel H6;have q2:=C2.cell 0 _ rfl)
     | (go_at_call 98;refine(KP.out _ C2).mono ?_;rintro e3 w3 ⟨Hc,u,rfl,hu⟩;have C3:=(C2.bel Hc).bel (bal z8 (.cells #[.int .i64 0,.int .i64 0] 37));have H9:=hu.keep (bal z8 (.cells #[.int .i64 0,.int .i64 0] 37));have m0:=Live.fresh w3 #[.int .i64 0,.int .i64 0] 37 0 _ rfl;have m1:=Live.fresh w3 #[.int .i64 0,.int .i64 0] 37 1 _ rfl;obtain⟨m0,m0'⟩:=m0;obtain⟨m1,m1'⟩:=m1)
     | (go_at_call 13;refine(KB.out _).mono ?_;rintro e4 w4 ⟨rfl,H5⟩;have C4:=C3.bel H5;have q4:=C4.cell 23 _ rfl;have H8:=H9.keep H5)
     | (go_at_call 99;refine(KE.out _ _ C4.row H8).mono ?_;rintro e5 w5 ⟨rfl,Hb⟩;have C5:=C4.bel Hb;obtain⟨r0,r1,r2,r3⟩:=C5.ret)
     | (go_at_call 87;refine(KH.out _).mono ?_;rintro e6 w6 ⟨rfl,rfl⟩))
    refine bodyPost_ret (v:=.tuple #[.string t,.agg #[.int .i64 0,.int .i64 0]]) (by simp[results,Tryz.results41,go_sem,r0,r1,r2,r3]) rfl ?_;exact⟨rfl,y7t C5.gg _ _⟩
   | true=>
    go_enter func41,ntmps41
    go_wp2_with fail
    rw[←hW];clear hW
    go_wp2_with (first
     | (go_at_call 96;refine(KW.out).mono ?_;rintro e1 w1 ⟨rfl,H7⟩;have C1:=C.bel H7;have q1:=C1.cell 0 _ rfl)
     | (go_at_call 97;refine(KV.out _ C1).mono ?_;rintro e2 w2 ⟨rfl,H6⟩;have C2:=C1.bel H6;have q2:=C2.cell 0 _ rfl)
     | (go_at_call 98;refine(KP.out _ C2).mono ?_;rintro e3 w3 ⟨Hc,u,rfl,hu⟩;have C3:=(C2.bel Hc).bel (bal z8 (.cells #[.int .i64 0,.int .i64 0] 37));have H9:=hu.keep (bal z8 (.cells #[.int .i64 0,.int .i64 0] 37));have m0:=Live.fresh w3 #[.int .i64 0,.int .i64 0] 37 0 _ rfl;have m1:=Live.fresh w3 #[.int .i64 0,.int .i64 0] 37 1 _ rfl;obtain⟨m0,m0'⟩:=m0;obtain⟨m1,m1'⟩:=m1)
     | (go_at_call 13;refine(KB.out _).mono ?_;rintro e4 w4 ⟨rfl,H5⟩;have C4:=C3.bel H5;have q4:=C4.cell 23 _ rfl;have H8:=H9.keep H5)
     | (go_at_call 99;refine(KE.out _ _ C4.row H8).mono ?_;rintro e5 w5 ⟨rfl,Hb⟩;have C5:=C4.bel Hb;obtain⟨r0,r1,r2,r3⟩:=C5.ret)
     | (go_at_call 87;refine(KH.out _).mono ?_;rintro e6 w6 ⟨rfl,rfl⟩)
     | (go_at_call 90;refine(KJ.out _).mono ?_;rintro e7 w7 ⟨rfl,Hg⟩;have C7:=C5.bel Hg;obtain⟨s0,s1,s2,s3⟩:=C7.ret))
    refine bodyPost_ret (v:=.tuple #[.string (bomB++t),.agg #[.int .i64 0,.int .i64 0]]) (by simp[results,Tryz.results41,go_sem,s0,s1,s2,s3]) rfl ?_;exact⟨rfl,y7t C7.gg _ _⟩
end Go.Proofs.YtgjchmcpondogaaGreatDoor
