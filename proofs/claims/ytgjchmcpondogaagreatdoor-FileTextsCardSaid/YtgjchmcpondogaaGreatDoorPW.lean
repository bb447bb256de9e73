/- PW -/
import Derived.Test.YtgjchmcpondogaaGreatDoorPV
set_option linter.all false
set_option maxRecDepth 100000
set_option maxHeartbeats 40000000
namespace Go.Proofs.YtgjchmcpondogaaGreatDoor
open Go Go.Rf Go.RowKit Go.Proofs.Tryz
abbrev noB(c:UInt8):Bool:=!(c==93)
abbrev ltB(c:UInt8):Bool:=decide (97≤c.toNat)&&decide (c.toNat≤122)
theorem yFx(l:List UInt8)(i:Nat)(h:∀j c,j<i→l[j]?=some c→c≠93):(l.take i).all noB=true:=by
 rw[List.all_eq_true];intro c hc;obtain⟨j,hj⟩:=List.mem_iff_getElem?.1 hc;have H5:j<i:=by
  rcases Nat.lt_or_ge j i with h|h
  · exact h
  · rw[List.getElem?_eq_none (by rw[List.length_take];omega)]at hj;cases hj
 rw[List.getElem?_take_of_lt H5]at hj;simpa[noB]using h j c H5 hj
theorem y85(s:ByteArray)(w:World)(hG:GW w)(hs:s.size≤1000):LP 86 s w (okO (lrcS () s)) (psO (lrcS () s)):=by
 unfold LP;have HL:Hid ((bl s).length=s.size):=zJ s;by_cases h0:s.size=0
 · have e0:lrcS () s=some ((),[]):=by unfold lrcS;rw[if_pos h0]
   rw[e0];show Calls _ _ _ _ fun e w'=>(∃x,e=.returned (.tuple #[x,.bool true])∧(true=true→y1o w' x 0 []))∧Below w.heap.size w w'
   have hE:s.toList.isEmpty=true:=by rw[ByteArray.toList_eq,List.isEmpty_iff];exact List.eq_nil_of_length_eq_zero (by rw[show s.data.toList.length=s.size from zJ s];exact h0)
   clear h0
   go_enter func86,ntmps86
   go_wp2_with fail
   go_ret2
   exact⟨⟨_,rfl,fun _=>.inl ⟨rfl,rfl,rfl⟩⟩,z8⟩
 · have hE:s.toList.isEmpty=false:=by rw[←Bool.not_eq_true,ByteArray.toList_eq,List.isEmpty_iff];exact fun h=>h0 (by rw[←show s.data.toList.length=s.size from zJ s,h];rfl)
   obtain⟨V,hV⟩:∃V,V=lrcS () s:=⟨_,rfl⟩;rw[←hV];unfold lrcS at hV;rw[if_neg h0]at hV;simp only at hV;obtain⟨VB,kA⟩:∃x,x=okO V:=⟨_,rfl⟩;obtain⟨VL,kz⟩:∃x,x=psO V:=⟨_,rfl⟩;rw[←kA,←kz];have kD:=z7 kA;have kC:=z7 kz;clear kA kz;have HV:=z7 hV;have HG:=z7 hG;have H0:1≤s.size:=by omega
   clear hV h0 hG
   go_enter func86,ntmps86
   go_wp2_with fail
   go_loopw [4,5] (fun v iv wr=>∃(a k:Nat) (A:List Pc),iv=.int .i64 (a:Int)∧a≤s.size∧s.size≤k+a∧Hid (zj s.size s 0=(A++(zj k s a).1,(zj k s a).2))∧Hid (wr.ownsRow w.heap.size 73 3 v A.length (pcC A))∧Hid (Below w.heap.size w wr)∧A.length≤a∧Hid (a=0→A = [])) (fun _ iv _=>s.size-(intOf iv).toNat)
   case atStart=>exact⟨0,s.size,[],rfl,zD,zA,z7 (by simp),z7 (World.ownsRow_nil _ _ _ _),z7 z8,zD,z7 (fun _=>rfl)⟩
   case round=>
    obtain⟨a,k,A,rfl,ha,hk,HT,HO,HB,Kq,Kj⟩:=hrel;obtain⟨a1,c1,rfl⟩:=zL HO.out;have Hv:w.heap.size≤wr.heap.size:=HB.out.size;obtain⟨Q,hQ⟩:∃Q,Q=s.extract a s.size:=⟨_,rfl⟩;have Hl:bl Q=(bl s).drop a:=by rw[hQ,y23]
    have kP:Q.size=s.size-a:=by rw[hQ,zG];omega
    obtain⟨n,hn⟩:∃n,n=momN (bl Q):=⟨_,rfl⟩;have kK:n≤Q.size:=by rw[hn,←zJ];exact y9e _
    have kt:∀w',Below w.heap.size w w'→Calls prog 159 #[.string (s.extract a s.size)] w' fun e w''=>e=.returned (.int .i64 n)∧Below w'.heap.size w' w'':=fun w' h=>by
     have:=yDm Q w' (HG.out.bel h) (by omega);rw[←hn,hQ]at this;exact this
    have KT:=z7 kt;have z0:(0:Int)≤(a:Int):=by omega
    have z1:(a:Int)≤(s.size:Int):=by omega
    by_cases hz:n=0
    · subst hz
      have Hc:=HT.out;rw[y4h s a k (by rw[←Hl,←hn]),List.append_nil]at Hc;have hv:=HV.out;rw[Hc]at hv;simp only at hv;by_cases Hz:a=0
      · subst Hz
        have Kd:A = []:=Kj.out rfl;subst Kd;rw[if_pos rfl]at hv;have kQ:=z7 hv;rw[show s.extract 0 s.size=s by apply ByteArray.ext;apply Array.ext';rw[zx];rfl]at kt;have KT:=z7 kt;clear hv Hc kt hQ Hl hn
        go_wp2_with (go_at_call 159;refine(KT.out _ HB.out).mono ?_;rintro e w2 ⟨rfl,H9⟩)
        have H7:=z7 (HB.out.trans (H9.mono Hv));have Kg:Hid (w2.ownsRow w.heap.size 73 3 (.slice a1 0 c1) 0 (pcC [])):=z7 (zK HO.out H9);clear H9
        go_loopw [7] (fun iv wx=>∃n:Nat,iv=.int .i64 (n:Int)∧1≤n∧n≤s.size∧Hid ((((bl s).drop 1).take (n-1)).all ltB=true)∧wx=w2) (fun iv _=>s.size-(intOf iv).toNat)
        case atStart=>exact⟨1,rfl,zA,H0,z7 (by simp),rfl⟩
        case round=>
         obtain⟨n,rfl,Kn,kW,kH,rfl⟩:=hrel;obtain⟨x,hx⟩:=zM (bl s) 0 (by rw[HL.out];omega);have X:∀h,s[0]'h=x:=zT s 0 x hx;have Kk:=x.toNat_lt;have hh:(bl s).head?=some x:=by rw[List.head?_eq_getElem?];exact hx
         have Hn:(n<s.size∧∃y,(bl s)[n]?=some y∧ltB y=true)∨(n=s.size∨(n<s.size∧∃y,(bl s)[n]?=some y∧ltB y=false)):=by
          by_cases Hi:n<s.size
          · obtain⟨y,hy⟩:=zM (bl s) n (by rw[HL.out];exact Hi)
            cases hc:ltB y with
            | true=>exact .inl ⟨Hi,y,hy,hc⟩
            | false=>exact .inr (.inr ⟨Hi,y,hy,hc⟩)
          · exact .inr (.inl (by omega))
         rcases Hn with⟨Hi,y,hy,hc⟩|Hn
         · have Y:∀h,s[n]'h=y:=zT s n y hy
           have k9:=y.toNat_lt;have e:(((bl s).drop 1).take (n+1-1)).all ltB=true:=by
            have:=(zq ltB ((bl s).drop 1) (n-1) y (by rw[List.getElem?_drop,show 1+(n-1)=n by omega];exact hy) kH.out).1 hc
            rwa [show n-1+1=n+1-1 by omega]at this
           have EE:=z7 e;have g1:(97:Int)≤(y.toNat:Int):=by simp[ltB]at hc;omega
           have g2:(y.toNat:Int)≤122:=by simp[ltB]at hc;omega
           clear hx hy hh hc e
           go_wp2_with fail
           go_roundw
           case rel=>exact⟨n+1,by first|omega|go_num,by omega,by omega,EE,trivial⟩
           case measure=>simp[intOf];omega
         · have He:noE (bl s)=n:=by
            unfold noE;have:=y1k ltB ((bl s).drop 1) (n-1) kH.out (by rw[List.length_drop,HL.out];omega) (fun c hc=>by
             rw[List.getElem?_drop,show 1+(n-1)=n by omega]at hc;rcases Hn with h|⟨_,y,hy,hb⟩
             · have:=(List.getElem?_eq_some_iff.1 hc).1;rw[HL.out]at this;omega
             · rw[hy]at hc;cases hc;exact hb)
            show 1+(((bl s).drop 1).takeWhile ltB).length=n;omega
           have H8:noteOk (bl s)=((some x==some 91)&&(((bl s).takeWhile noB).length+1==(bl s).length)&&decide (1<n)&&((bl s)[n]?==some 58)):=by rw[←He,←hh];rfl
           have H5:noteOk (bl s)=false→VB=false:=fun h=>by have:=kQ.out;rw[h,if_neg (by decide)]at this;rw[kD.out,this];rfl
           by_cases Ha:x=91
           · subst Ha
             by_cases Km:n<2
             · have Hb:=H5 (by rw[H8,decide_eq_false (by omega)];simp)
               subst Hb;have kY:n=1:=by omega
               subst kY;rcases Hn with h|⟨Hi,y,hy,hb⟩
               · have h':(s.size:Int)=1:=by omega
                 have h2:¬((1:Int)<(s.size:Int)):=by omega
                 clear H8 H5 hx hh He h
                 go_wp2_with fail
                 go_ret2
                 first|exact⟨⟨_,rfl,fun h=>by cases h⟩,H7.out⟩|exact⟨⟨_,rfl⟩,H7.out⟩
               · have Y:∀h,s[1]'h=y:=zT s 1 y hy
                 have k9:=y.toNat_lt;have hq:(y.toNat:Int)<97∨(97:Int)≤(y.toNat:Int)∧(122:Int)<(y.toNat:Int):=by simp[ltB]at hb;omega
                 clear H8 H5 hx hh He hy hb;rcases hq with q|⟨q,q'⟩
                 all_goals
                  go_wp2_with fail
                  go_ret2
                  first|exact⟨⟨_,rfl,fun h=>by cases h⟩,H7.out⟩|exact⟨⟨_,rfl⟩,H7.out⟩
             · rcases Hn with h|⟨Hi,y,hy,hb⟩
               · have Hb:=H5 (by rw[H8,show(bl s)[n]?=none by rw[List.getElem?_eq_none_iff,HL.out];omega];simp)
                 have h2:¬((n:Int)<(s.size:Int)):=by omega
                 have h3:¬((n:Int)<2):=by omega
                 have h4:(s.size:Int)≤(n:Int):=by omega
                 subst Hb;clear H8 H5 hx hh He h
                 go_wp2_with fail
                 go_ret2
                 first|exact⟨⟨_,rfl,fun h=>by cases h⟩,H7.out⟩|exact⟨⟨_,rfl⟩,H7.out⟩
               · have Y:∀h,s[n]'h=y:=zT s n y hy
                 have k9:=y.toNat_lt;have h3:¬((n:Int)<2):=by omega
                 by_cases Hd:y=58
                 · subst Hd
                   have kU:=z7 H5;have kF:=z7 H8;have Kh:=z7 He;have HY:=z7 hy;have kI:∀j c,j<n→j<s.size-1→(bl s)[j]?=some c→c≠93:=by
                    intro j c h1 _ h2;rintro rfl;rcases Nat.eq_zero_or_pos j with rfl|h0
                    · rw[hx]at h2;exact absurd (zF h2) (by decide)
                    · have:=List.all_eq_true.1 kH.out 93 (List.mem_of_getElem? (i:=j-1) (by rw[List.getElem?_take_of_lt (by omega),List.getElem?_drop,show 1+(j-1)=j by omega];exact h2))
                      exact absurd this (by decide)
                   have Kf:=z7 kI;clear kI H5 H8 He hy hb hx hh
                   go_wp2_with fail
                   go_loopw [8] (fun iv wz=>∃i:Nat,iv=.int .i64 (i:Int)∧n≤i∧i≤s.size∧Hid (∀j c,j<i→j<s.size-1→(bl s)[j]?=some c→c≠93)∧Hid (Below w.heap.size w wz)∧Hid (wz.ownsRow w.heap.size 73 3 (.slice a1 0 c1) 0 (pcC []))) (fun iv _=>s.size-(intOf iv).toNat)
                   case atStart=>exact⟨n,rfl,zA,kW,Kf,H7,Kg⟩
                   case round=>
                    obtain⟨i,rfl,Kl,Kp,HI,Hm,kT⟩:=hrel;have j4:IntKind.i64.wrap ((s.size:Int)-1)=(s.size:Int)-1:=wi64 _ (by omega) (by omega);have j5:((s.size:Int)-1).toNat=s.size-1:=by omega
                    by_cases ky:i<s.size
                    · obtain⟨z,hz⟩:=zM (bl s) i (by rw[HL.out];exact ky)
                      have Z:∀h,s[i]'h=z:=zT s i z hz;have kV:=z.toNat_lt;by_cases Hf:z=93∧i<s.size-1
                      · obtain⟨rfl,K9⟩:=Hf
                        have Hb:=kU.out (by
                         rw[kF.out,show(((bl s).takeWhile noB).length+1==(bl s).length)=false by
                          rw[y1k noB (bl s) i (yFx _ _ fun j c h1 h2=>HI.out j c h1 (by omega) h2) (by rw[HL.out];omega) (fun c hc=>by rw[hz]at hc;cases hc;rfl),HL.out,Y2];omega]
                         simp)
                        subst Hb;have g6:(i:Int)<(s.size:Int)-1:=by omega
                        clear hz K9
                        go_wp2_with fail
                        go_ret2
                        first|exact⟨⟨_,rfl,fun h=>by cases h⟩,Hm.out⟩|exact⟨⟨_,rfl⟩,Hm.out⟩
                      · have g5:((z.toNat:Int)==93)=false∨(z=93∧¬(i:Int)<(s.size:Int)-1):=by
                         by_cases h9:z=93
                         · exact .inr ⟨h9,by have:¬i<s.size-1:=fun h=>Hf ⟨h9,h⟩;omega⟩
                         · exact .inl (by rw[Y2];exact y0a z 93 (by decide) h9)
                        have Ki:Hid (∀j c,j<i+1→j<s.size-1→(bl s)[j]?=some c→c≠93):=z7 (by
                         intro j c h1 h2 h3;rcases Nat.lt_or_ge j i with h4|h4
                         · exact HI.out j c h4 h2 h3
                         · have hj:j=i:=by omega
                           subst hj;rw[hz]at h3;cases h3;rintro rfl;exact Hf ⟨rfl,h2⟩)
                        clear hz Hf;rcases g5 with g|⟨rfl,g⟩
                        all_goals
                         go_wp2_with fail
                         go_roundw
                         case rel=>exact⟨i+1,by first|omega|go_num,by omega,by omega,Ki,Hm,kT⟩
                         case measure=>simp[intOf];omega
                    · have kZ:i=s.size:=by omega
                      subst kZ;obtain⟨z,hz⟩:=zM (bl s) (s.size-1) (by rw[HL.out];omega);have Z:∀h,s[s.size-1]'h=z:=zT s (s.size-1) z hz;have kV:=z.toNat_lt;have Hk:=yFx (bl s) (s.size-1) (fun j c h1 h2=>HI.out j c (by omega) h1 h2);have j6:(0:Int)≤(s.size:Int)-1:=by omega
                      have j7:(s.size:Int)-1<(s.size:Int):=by omega
                      by_cases HQ:z=93
                      · subst HQ
                        have kX:n≠s.size-1:=by
                         intro h;have:=HY.out;rw[h,hz]at this;exact absurd (zF this) (by decide)
                        have kJ:noteOk (bl s)=true:=by
                         rw[kF.out,y1k noB (bl s) (s.size-1) Hk (by rw[HL.out];omega) (fun c hc=>by rw[hz]at hc;cases hc;rfl),HY.out,HL.out,decide_eq_true (show 1<n by omega),show s.size-1+1=s.size by omega];simp
                        have kx:V=some ((),notP s):=by rw[kQ.out,if_pos kJ]
                        have Hy:VB=true:=by rw[kD.out,kx];rfl
                        have Hh:VL = [] ++ [mkP (s.extract 0 (n+1))] ++ [txP (s.extract 1 n) (s.extract (n+1) (s.size-1))] ++ [mkP ⟨#[93]⟩]:=by rw[kC.out,kx];show notP s=_;unfold notP;rw[Kh.out];rfl
                        have Ho:=z7 Hh;subst Hy;have i0:(0:Int)≤(n:Int)+1:=by omega
                        have i1:(n:Int)+1≤(s.size:Int):=by omega
                        have i2:((n:Int)+1).toNat=n+1:=by omega
                        have i3:IntKind.i64.wrap ((n:Int)+1)=(n:Int)+1:=wi64 _ (by omega) (by omega);have i4:(1:Int)≤(n:Int):=by omega
                        have i5:(n:Int)≤(s.size:Int):=by omega
                        have i6:(n:Int)+1≤(s.size:Int)-1:=by omega
                        have i7:(s.size:Int)-1≤(s.size:Int):=by omega
                        have KP1:=z7 (zY (.slice a1 0 c1) [] w.heap.size (s.extract 0 (n+1)) _ kT.out (by decide) Hm.out.size);clear Hh kx kJ kX Hk hz
                        go_upto_region 26 with(go_at_call 78;refine(KP1.out).mono ?_;rintro e w5 ⟨⟨v5,rfl,Hq⟩,Kb⟩;have Hj:=Hm.out.trans Kb;(have KW:=z7 (fun(m t:ByteArray) (w':World) (h:Below w5.heap.size w5 w')=>y06 v5 _ w.heap.size m t w' (zK Hq h) (by show 1<_;decide) (zE Hj.size h.size))))
                        go_region_with (go_at_call 80;go_loud  (refine(KW.out _ _ _ (by first|exact(z8).drew|exact z8)).mono ?_);go_loud  (rintro e w6 ⟨⟨v6,rfl,Hp⟩,kM⟩);go_loud  (have Ht:Below w.heap.size w w6:=by first|exact Hj.trans kM|exact Hj.drew.trans kM))
                        all_goals
                         go_wp2_with (go_at_call 78;(refine(zY _ _ _ _ _ Hp (by show 2<_;decide) Ht.size).mono ?_);rintro e w7 ⟨⟨v7,rfl,Hg⟩,Ka⟩)
                         go_ret2
                         exact⟨⟨_,rfl,by first|(intro _;rw[Ho.out];exact zX Hg)|(rw[Ho.out];exact zX Hg)⟩,Ht.trans Ka⟩
                      · have Hb:=kU.out (by
                         rw[kF.out,show(((bl s).takeWhile noB).length+1==(bl s).length)=false by
                          have:((bl s).takeWhile noB)=bl s:=y4f _ _ (by
                           have:=yFx (bl s) s.size (fun j c h1 h2=>by
                            rcases Nat.lt_or_ge j (s.size-1)with h3|h3
                            · exact HI.out j c h1 h3 h2
                            · rw[show j=s.size-1 by omega,hz]at h2;cases h2;exact HQ)
                           rwa [List.take_of_length_le (by rw[HL.out];exact zA)]at this)
                          rw[this,Y2];omega]
                         simp)
                        subst Hb;have gz0:((z.toNat:Int)==93)=false:=by rw[Y2];exact y0a z 93 (by decide) HQ
                        have gz:((z.toNat:Int) != 93)=true:=by rw[bne,gz0];rfl
                        clear hz HQ Hk
                        go_wp2_with fail
                        go_ret2
                        first|exact⟨⟨_,rfl,fun h=>by cases h⟩,Hm.out⟩|exact⟨⟨_,rfl⟩,Hm.out⟩
                 · have Hb:=H5 (by rw[H8,hy,show(some y==some (58:UInt8))=false by rw[Y2];exact fun h=>Hd (zF h)];simp)
                   have gy0:((y.toNat:Int)==58)=false:=by rw[Y2];exact y0a y 58 (by decide) Hd
                   have gy:((y.toNat:Int) != 58)=true:=by rw[bne,gy0];rfl
                   subst Hb;have hq:(y.toNat:Int)<97∨(97:Int)≤(y.toNat:Int)∧(122:Int)<(y.toNat:Int):=by simp[ltB]at hb;omega
                   clear H8 H5 hx hh He hy hb Hd;rcases hq with q|⟨q,q'⟩
                   all_goals
                    go_wp2_with fail
                    go_ret2
                    first|exact⟨⟨_,rfl,fun h=>by cases h⟩,H7.out⟩|exact⟨⟨_,rfl⟩,H7.out⟩
           · have Hb:=H5 (by rw[H8,show(some x==some (91:UInt8))=false by rw[Y2];exact fun h=>Ha (zF h)];simp)
             have gx0:((x.toNat:Int)==91)=false:=by rw[Y2];exact y0a x 91 (by decide) Ha
             have gx:((x.toNat:Int) != 91)=true:=by rw[bne,gx0];rfl
             subst Hb;rcases Hn with h|⟨Hi,y,hy,hb⟩
             · have h2:¬((n:Int)<(s.size:Int)):=by omega
               clear H8 H5 hx hh He h Ha
               go_wp2_with fail
               go_ret2
               first|exact⟨⟨_,rfl,fun h=>by cases h⟩,H7.out⟩|exact⟨⟨_,rfl⟩,H7.out⟩
             · have Y:∀h,s[n]'h=y:=zT s n y hy
               have k9:=y.toNat_lt;have hq:(y.toNat:Int)<97∨(97:Int)≤(y.toNat:Int)∧(122:Int)<(y.toNat:Int):=by simp[ltB]at hb;omega
               clear H8 H5 hx hh He hy hb Ha;rcases hq with q|⟨q,q'⟩
               all_goals
                go_wp2_with fail
                go_ret2
                first|exact⟨⟨_,rfl,fun h=>by cases h⟩,H7.out⟩|exact⟨⟨_,rfl⟩,H7.out⟩
      · rw[if_neg Hz]at hv
        have Hy:VB=true:=by rw[kD.out,hv];rfl
        have y1:(0:Int)<(a:Int):=by omega
        by_cases kO:a=s.size
        · have Hh:VL=A:=by rw[kC.out,hv];show A++_=A;rw[if_neg (by omega),List.append_nil]
          have Ho:=z7 Hh;have y2:¬((a:Int)<(s.size:Int)):=by omega
          subst Hy;clear Hh hv Hc hn Hz kO hQ Hl kt
          go_wp2_with (go_at_call 159;refine(KT.out _ HB.out).mono ?_;rintro e w2 ⟨rfl,H9⟩)
          go_ret2
          exact⟨⟨_,rfl,by rw[Ho.out];exact zX (zK HO.out H9)⟩,HB.out.trans (H9.mono Hv)⟩
        · have Hh:VL=A ++ [txP teN (s.extract a s.size)]:=by
           rw[kC.out,hv];show A++_=_;rw[if_pos (by omega)]
          have Ho:=z7 Hh;have y2:(a:Int)<(s.size:Int):=by omega
          have y3:A.length<1000000:=by omega
          have kw:=fun w' h1 h2=>y06 (.slice a1 A.length c1) A w.heap.size teN (s.extract a s.size) w' h1 y3 h2
          have KWR:=z7 kw;subst Hy;clear Hh hv Hc hn Hz kO hQ Hl kt kw
          go_wp2_with (first
           | (go_at_call 159;refine(KT.out _ HB.out).mono ?_;rintro e w2 ⟨rfl,H9⟩;have H6:=HB.out.trans (H9.mono Hv))
           | (go_at_call 80;refine(KWR.out _ (zK HO.out H9) H6.size).mono ?_;rintro e w3 ⟨⟨v3,rfl,Hs⟩,Hw⟩))
          go_ret2
          exact⟨⟨_,rfl,by rw[Ho.out];exact zX Hs⟩,H6.trans Hw⟩
    · have Ko:0<n:=by omega
      obtain⟨k,rfl⟩:∃k',k=k'+1:=⟨k-1,by omega⟩;have Hc:=HT.out;rw[zj,if_neg (by rw[←Hl,←hn];exact hz)]at Hc;simp only at Hc;rw[←Hl,←hn]at Hc;have Ke:Hid (zj s.size s 0=((A ++ [mkP (s.extract a (a+n))])++(zj k s (a+n)).1,(zj k s (a+n)).2)):=z7 (by rw[Hc,List.append_assoc];rfl);have y3:A.length<1000000:=by omega
      have kp:=fun w' h1 h2=>zY (.slice a1 A.length c1) A w.heap.size (s.extract a (a+n)) w' h1 y3 h2
      have KPT:=z7 kp;have j0:(0:Int)<(n:Int):=by omega
      have j1:(a:Int)≤(a:Int)+(n:Int):=by omega
      have j2:(a:Int)+(n:Int)≤(s.size:Int):=by omega
      have j3:((a:Int)+(n:Int)).toNat=a+n:=by omega
      have j4:IntKind.i64.wrap ((a:Int)+(n:Int))=(a:Int)+(n:Int):=wi64 _ (by omega) (by omega);have kR:Hid (Q.size=s.size-a∧n≤Q.size):=z7 ⟨kP,kK⟩;clear Hc hn hz hQ Hl kt kp kP kK
      go_wp2_with (first
       | (go_at_call 78;refine(KPT.out _ (zK (zK HO.out H9) Hw) Hu.size).mono ?_;rintro e w4 ⟨⟨v4,rfl,Hr⟩,Kc⟩)
       | (go_at_call 159;refine(KT.out _ H6).mono ?_;rintro e w3 ⟨rfl,Hw⟩;have Hu:=H6.trans (Hw.mono H6.size))
       | (go_at_call 159;refine(KT.out _ HB.out).mono ?_;rintro e w2 ⟨rfl,H9⟩;have H6:=HB.out.trans (H9.mono Hv)))
      go_roundw
      case rel=>exact⟨a+n,k,A ++ [mkP (s.extract a (a+n))],by first|omega|go_num,by have:=kR.out;omega,by omega,Ke,z7 Hr,z7 (Hu.trans Kc),by rw[zH];simp;omega,z7 (fun h=>by omega)⟩
      case measure=>have:=kR.out;simp[intOf];omega
theorem y5C(N:ByteArray)(h:N.size=0):mkL N = []:=by unfold mkL;rw[if_neg (by omega)]
theorem y2i(N:ByteArray)(h:¬N.size=0):mkL N = [mkP N]:=by unfold mkL;rw[if_pos (by omega)]
theorem y2W(N:ByteArray)(h:N.size=0):N.toList.isEmpty=true∧(N.toList == [])=true∧(N.toList != [])=false:=by
 have:N.toList = []:=by rw[ByteArray.toList_eq];exact List.eq_nil_of_length_eq_zero (by rw[show N.data.toList.length=N.size from zJ N];exact h)
 rw[this];exact⟨rfl,rfl,rfl⟩
theorem y0l(N:ByteArray)(h:¬N.size=0):N.toList.isEmpty=false∧(N.toList == [])=false∧(N.toList != [])=true:=by
 cases hq:N.toList with
 | nil=>rw[ByteArray.toList_eq]at hq;exact absurd (show N.size=0 by rw[←zJ N];show N.data.toList.length=0;rw[hq];rfl) h
 | cons a l=>exact⟨rfl,rfl,rfl⟩
theorem y9R(b:ByteArray)(w:World)(hG:GW w)(hs:b.size≤1000):Calls prog 37 #[.string b] w (RefR (lrcM b) w):=by
 have HL:Hid ((bl b).length=b.size):=zJ b;obtain⟨L,hL⟩:∃L,L=lnF (bl b) 0:=⟨_,rfl⟩;have k1:=y2E b w (by omega);have Hy:=y1X b;obtain⟨R,hR⟩:∃R,R=lrcM b:=⟨_,rfl⟩;rw[←hR];rw[←hL]at k1 Hy;unfold lrcM at hR;have K1:=z7 k1;have K2:=z7 (fun(s:ByteArray) (w':World) (h:Below w.heap.size w w') (hz:s.size≤1000)=>(by have:=y85 s w' (hG.bel h) hz;unfold LP at this;exact this:Calls _ _ _ _ _));have Hz:=z7 hR;have HQ:=z7 hL;clear k1 hR hL hG
 go_enter func37,ntmps37
 go_wp2_with (go_at_call 74;(with_reducible refine(K1.out).mono ?_);rintro e w1 ⟨v,rfl,Ha,Hr⟩;obtain⟨a1,c1,rfl⟩:=zL Ha)
 have HR:=z7 (zm Ha);have Hj:=z7 Hr;clear Ha Hr
 go_loopw [4,6] (fun v iv wr=>∃(k a:Nat) (A:List Pc),iv=.int .i64 (k:Int)∧a≤b.size∧Hid (L.drop k=lnF (bl b) a)∧Hid (R=outP (walkS lrcS b () A (lnF (bl b) a)))∧Hid (wr.ownsRow w1.heap.size 73 3 v A.length (pcC A))∧Hid (Below w1.heap.size w1 wr)∧A.length≤3*a) (fun _ iv _=>L.length-(intOf iv).toNat)
 case atStart=>exact⟨0,0,[],rfl,zD,HQ,Hz,z7 (World.ownsRow_nil _ _ _ _),z7 z8,zD⟩
 case round=>
  obtain⟨k,a,A,rfl,Hw,HD,HA,HO,HB,kC⟩:=hrel;by_cases Hp:a<b.size
  · obtain⟨E,hE⟩:∃E,E=nxE (bl b) a:=⟨_,rfl⟩
    obtain⟨D,hD⟩:∃D,D=nxB (bl b) E:=⟨_,rfl⟩;have H6:=zp (bl b) a (by rw[HL.out];exact Hp);have e1:a≤E:=by rw[hE];exact y1w _ _
    have e2:E≤b.size:=by rw[hE,←HL.out];exact y2Z _ _ (by rw[HL.out];exact Hw)
    have e3:E≤D:=by rw[hD];exact y35 _ _
    have e4:D≤b.size:=by rw[hD,←HL.out];exact y3o _ _ (by rw[HL.out];exact e2)
    have e5:a<D:=by rw[hD,hE];exact y58 _ _ (by rw[HL.out];exact Hp)
    rw[←hE,←hD]at H6;obtain⟨hp,hd,k9⟩:=y3D (HD.out.trans H6);have H5:=HA.out;rw[H6]at H5;unfold walkS at H5;obtain⟨g,o,c',e,_⟩:=y0D HR.out _ _ (y0H b L k _ hp 0 _ rfl);simp only[Value.slice.injEq]at e;obtain⟨rfl,_,rfl⟩:=e;have hw:∀w' (h:Below w1.heap.size w1 w'),_:=fun w' h=>y1T (HR.out.keep h) k (a,E,D) hp
    obtain⟨S,hS⟩:∃S,S=b.extract a E:=⟨_,rfl⟩;have kz:S.size=E-a:=by rw[hS,zG];omega
    have Hg:=y7E b E D e3 e4;obtain⟨N,hN⟩:∃N,N=b.extract E D:=⟨_,rfl⟩;simp only at hw;rw[←hN]at Hg;rw[←hS]at H5;simp only[←hS,←hN]at hw;have Hq:(psO (lrcS () S)).length≤2*S.size:=by
     cases hq:lrcS () S with
     | none=>exact zD
     | some p=>exact y9g () S p.1 p.2 hq
    have Hb:=fun w' h=>K2.out S w' h (by omega)
    rw[←hN]at H5;have HW:=z7 hw;have Hi:=z7 (Hj.out.trans (HB.out.mono Hj.out.size));obtain⟨p0,p1,p2⟩:=HW.out wr HB.out;have z1:=HB.out.size;cases hc:lrcS () S with
    | none=>
     rw[hc]at Hb;rw[hc]at H5;simp only at H5;have K3:=z7 Hb;have Hd:=z7 H5;clear Hb H5 hw hc hp hd H6 Hg hN hS hE hD
     go_upto_region 8 with(go_at_call 86;refine(K3.out _ Hi.out).mono ?_;rintro e w2 ⟨⟨x,rfl,hx⟩,H9⟩;obtain⟨r0,r1,r2⟩:=HW.out w2 (HB.out.trans (H9.mono HB.out.size)))
     go_region
     go_wp2
     go_ret2
     exact⟨(Hi.out.trans (H9.mono Hi.out.size)).drew,.inl ⟨a,Hd.out,rfl⟩⟩
    | some pp=>
     obtain⟨⟨⟩,Q⟩:=pp;rw[hc]at Hb Hq;rw[hc]at H5;change Q.length≤_ at Hq;simp only at H5;rw[←Hg]at H5;have K3:=z7 Hb;have Hs:=z7 hd;have Ho:A.length+Q.length<70368744177664:=by omega
     have Hn:(A.length+Q.length)*40≤140737488355328:=by omega
     have Ht:(A++Q).length<1000000:=by rw[zH];omega
     obtain⟨va,vc,rfl⟩:=zL HO.out;have kA:N.size=D-E:=by rw[hN,zG];omega
     by_cases He:N.size=0
     · obtain⟨n1,n2,n3⟩:=y2W N He
       rw[y5C N He,List.append_nil]at H5;have Hd:=z7 H5;clear Hb H5 hw hc hp hd H6 Hg hN hS hE hD He
       go_wp2_with (first
        | (go_at_call 86;refine(K3.out _ Hi.out).mono ?_;rintro e w2 ⟨⟨x,rfl,hx⟩,H9⟩;have Hk:=hx (by trivial);have Hl:=zK HO.out H9;have Hh:=HB.out.trans (H9.mono HB.out.size))
        | (at_builtin;refine y08 rfl _ _ 46 73 rfl underlying46 Y3 3 40 infoPc rfl (by decide) w2 w1.heap.size (.slice va A.length vc) A.length (pcC A) rfl Hl x Q.length (pcC Q) rfl Hk (y0L _) (y52 _) Ho Hn Hh.size ?_;intro v3 w3 H8 Hm Hu;have H7:=Hh.trans Hm;obtain⟨r0,r1,r2⟩:=HW.out w3 H7))
       go_roundw
       case rel=>exact⟨k+1,D,A++Q,by first|omega|go_num,e4,Hs,Hd,z7 (by rw[zl,zH];exact H8),z7 H7,by rw[zH];omega⟩
       case measure=>simp[intOf];omega
     · obtain⟨n1,n2,n3⟩:=y0l N He
       rw[y2i N He]at H5;have Hd:=z7 H5;clear Hb H5 hw hc hp hd H6 Hg hN hS hE hD He
       go_wp2_with (first
        | (go_at_call 86;refine(K3.out _ Hi.out).mono ?_;rintro e w2 ⟨⟨x,rfl,hx⟩,H9⟩;have Hk:=hx (by trivial);have Hl:=zK HO.out H9;have Hh:=HB.out.trans (H9.mono HB.out.size))
        | (at_builtin;refine y08 rfl _ _ 46 73 rfl underlying46 Y3 3 40 infoPc rfl (by decide) w2 w1.heap.size (.slice va A.length vc) A.length (pcC A) rfl Hl x Q.length (pcC Q) rfl Hk (y0L _) (y52 _) Ho Hn Hh.size ?_;intro v3 w3 H8 Hm Hu;have H7:=Hh.trans Hm;obtain⟨r0,r1,r2⟩:=HW.out w3 H7)
        | (go_at_call 78;(refine(zY v3 (A++Q) w1.heap.size N w3 (by rw[zl,zH];exact H8) Ht H7.size).mono ?_);rintro e w4 ⟨⟨v4,rfl,Hf⟩,Hv⟩))
       go_roundw
       case rel=>exact⟨k+1,D,A++Q ++ [mkP N],by first|omega|go_num,e4,Hs,Hd,z7 Hf,z7 (H7.trans Hv),by rw[zH,zH];simp;omega⟩
       case measure=>simp[intOf];omega
  · have ky:a=b.size:=by omega
    have Hc:=y0s (bl b) a (by rw[HL.out];omega);have H5:=HA.out;rw[Hc]at H5;have hd:=HD.out;rw[Hc]at hd;have kx:L.length≤k:=by
     rcases Nat.lt_or_ge k L.length with h|h
     · rw[List.drop_eq_getElem_cons h]at hd;cases hd
     · exact h
    have Hd:=z7 H5;clear H5 hd Hc
    go_wp2
    go_ret2
    exact⟨Hj.out.trans (HB.out.mono Hj.out.size),.inr ⟨A,_,Hd.out,rfl,zb HO.out Hj.out.size⟩⟩
def letB(c:UInt8)(f:Bool):Bool:=keB c && !(c==32&&f)
theorem y9S(x:UInt8)(f:Bool)(w:World):Calls prog 158 #[.int .u8 (x.toNat:Int),.bool f] w fun e w'=>e=.returned (.bool (letB x f))∧w=w':=by
 have h:=x.toNat_lt;have K1:=z7 (y74 x);cases hd:cpB x with
 | true=>
  rw[hd]at K1;have H5:x≠32:=by rintro rfl;cases hd
  have e:letB x f=true:=by unfold letB keB;rw[hd,show(x==32)=false from beq_eq_false_iff_ne.2 H5];rfl
  rw[e];clear hd e H5
  go_enter func158,ntmps158
  go_wp2_with (go_at_call 250;refine(K1.out _).mono ?_;rintro e w1 ⟨rfl,rfl⟩)
  all_goals go_ret
  all_goals exact⟨rfl,rfl⟩
 | false=>
  rw[hd]at K1;have h3:∀c:UInt8,(c==32)=decide (c.toNat=32):=y04 (by decide +kernel);have e:letB x f=((decide (97≤x.toNat)&&decide (x.toNat≤122)) || (decide (x.toNat=32) && !f)):=by
   unfold letB keB;rw[hd,Bool.false_or,h3];by_cases H5:x.toNat=32
   · rw[H5];cases f<;>rfl
   · simp[H5]
  rw[e];clear hd e h3;cases f
  all_goals
   go_enter func158,ntmps158
   go_wp2_with (go_at_call 250;refine(K1.out _).mono ?_;rintro e w1 ⟨rfl,rfl⟩)
   all_goals go_ret
   all_goals (refine⟨y0E ?_,rfl⟩;rw[Bool.eq_iff_iff];simp;omega)
theorem yGY(s:ByteArray)(w:World)(hs:s.size≤1000000):Calls prog 81 #[.string s] w fun e w'=>e=.returned (.int .i64 (keN (bl s):Nat))∧Below w.heap.size w w':=by
 have HL:Hid ((bl s).length=s.size):=zJ s;have K1:=z7 y9S;obtain⟨R,hR⟩:∃R,R=keN (bl s):=⟨_,rfl⟩;rw[←hR];have HR:=z7 hR;clear hR
 go_enter func81,ntmps81
 go_wp2
 go_loopw [3] (fun iv wr=>∃n:Nat,iv=.int .i64 (n:Int)∧n≤s.size∧Hid (((bl s).take n).all keB=true)∧Hid (0<n→(bl s).head?≠some 32)∧wr=w) (fun iv _=>s.size-(intOf iv).toNat)
 case atStart=>exact⟨0,rfl,zD,z7 (by simp),z7 (fun h=>absurd h (by decide)),rfl⟩
 case round=>
  obtain⟨n,rfl,H9,HA,H3,rfl⟩:=hrel;obtain⟨q,hq,H5⟩:∃q,(((n:Int)==0)=q)∧q=decide (n=0):=⟨_,rfl,by rw[Bool.eq_iff_iff];simp⟩;have i1:IntKind.i64.wrap ((n:Int)+1)=(n:Int)+1:=wi64 _ (by omega) (by omega);have i2:((n:Int)+1).toNat=n+1:=by omega
  have i3:(0:Int)≤(n:Int)+1:=by omega
  by_cases Hb:n<s.size
  · obtain⟨x,hx⟩:=zM (bl s) n (by rw[HL.out];exact Hb)
    have X:∀h,s[n]'h=x:=zT s n x hx;have Hf:=x.toNat_lt;have kl:=fun w=>K1.out x q w
    cases hl:letB x q with
    | true=>
     rw[hl]at kl;have KL:=z7 kl;have hk:keB x=true:=by unfold letB at hl;rw[Bool.and_eq_true]at hl;exact hl.1
     have Hc:Hid (((bl s).take (n+1)).all keB=true):=z7 ((zq keB (bl s) n x hx HA.out).1 hk);have Hd:Hid (0<n+1→(bl s).head?≠some 32):=z7 (fun _=>by
      rcases Nat.eq_zero_or_pos n with h0|h0
      · subst h0
        rw[List.head?_eq_getElem?,hx];intro e;have e2:x=32:=zF e;subst e2;rw[H5]at hl;cases hl
      · exact H3.out h0)
     clear hx hk hl H5 kl
     go_wp2_with (go_at_call 158;refine(KL.out _).mono ?_;rintro e w1 ⟨rfl,rfl⟩)
     go_roundw
     case rel=>exact⟨n+1,by first|omega|go_num,by omega,Hc,Hd,by first|exact rfl|trivial⟩
     case measure=>simp[intOf];omega
    | false=>
     rw[hl]at kl;have KL:=z7 kl;have hK:=yEp (bl s) n (by rw[HL.out];exact H9) HA.out H3.out (fun c hc=>by
      rw[hx]at hc;cases hc;unfold letB at hl;cases hk:keB x with
      | false=>exact .inl rfl
      | true=>
       rw[hk,Bool.true_and,H5]at hl;simp at hl;exact .inr hl)
     rw[←HR.out]at hK;by_cases Ha:n+1<s.size
     · obtain⟨z,hz⟩:=zM (bl s) (n+1) (by rw[HL.out];exact Ha)
       have Z:∀h,s[n+1]'h=z:=zT s (n+1) z hz;have He:=z.toNat_lt;have j1:(n:Int)+1<(s.size:Int):=by omega
       by_cases H6:x=58
       · have gx:((x.toNat:Int)==58)=true:=by subst H6;rfl
         by_cases H8:z=32
         · have gz:((z.toNat:Int)==32)=true:=by subst H8;rfl
           rw[if_pos ⟨by rw[hx,H6],by rw[hz,H8]⟩]at hK;subst hK;clear hx hz hl kl H6 H8 H5
           go_wp2_with (go_at_call 158;refine(KL.out _).mono ?_;rintro e w1 ⟨rfl,rfl⟩)
           go_ret
           exact⟨rfl,z8⟩
         · have gz:((z.toNat:Int)==32)=false:=by rw[Y2];exact y0a z 32 (by decide) H8
           rw[if_neg (fun h=>by rw[hz]at h;exact H8 (zF h.2))]at hK;subst hK;clear hx hz hl kl H6 H8 H5
           go_wp2_with (go_at_call 158;refine(KL.out _).mono ?_;rintro e w1 ⟨rfl,rfl⟩)
           go_ret
           exact⟨rfl,z8⟩
       · have gx:((x.toNat:Int)==58)=false:=by rw[Y2];exact y0a x 58 (by decide) H6
         rw[if_neg (fun h=>by rw[hx]at h;exact H6 (zF h.1))]at hK;subst hK;clear hx hz hl kl H6 H5
         go_wp2_with (go_at_call 158;refine(KL.out _).mono ?_;rintro e w1 ⟨rfl,rfl⟩)
         go_ret
         exact⟨rfl,z8⟩
     · have j1:¬(n:Int)+1<(s.size:Int):=by omega
       have H7:(bl s)[n+1]?=none:=List.getElem?_eq_none (by rw[HL.out];omega);rw[if_neg (fun h=>by rw[H7]at h;cases h.2)]at hK;subst hK;clear hx hl kl H5 H7
       go_wp2_with (go_at_call 158;refine(KL.out _).mono ?_;rintro e w1 ⟨rfl,rfl⟩)
       go_ret
       exact⟨rfl,z8⟩
  · have j1:¬(n:Int)+1<(s.size:Int):=by omega
    have H7:(bl s)[n]?=none:=List.getElem?_eq_none (by rw[HL.out];omega);have hK:=yEp (bl s) n (by rw[HL.out];exact H9) HA.out H3.out (fun c hc=>by rw[H7]at hc;cases hc);rw[←HR.out,if_neg (fun h=>by rw[H7]at h;cases h.1)]at hK;subst hK;clear H5 H7
    go_wp2_with fail
    go_ret
    exact⟨rfl,z8⟩
theorem yGS(s:ByteArray)(w:World)(hs:s.size≤1000000):Calls prog 82 #[.string s] w fun e w'=>e=.returned (.bool (secL (bl s)))∧Below w.heap.size w w':=by
 have HL:Hid ((bl s).length=s.size):=zJ s;obtain⟨R,hR⟩:∃R,R=secL (bl s):=⟨_,rfl⟩;rw[←hR];unfold secL at hR;rw[HL.out]at hR;by_cases h3:s.size<3
 · rw[decide_eq_false (by omega),Bool.false_and,Bool.false_and]at hR
   subst hR
   go_enter func82,ntmps82
   go_wp2_with fail
   go_ret
   exact⟨rfl,z8⟩
 · obtain⟨x,hx⟩:=zM (bl s) 0 (by rw[HL.out];omega)
   have X:∀h,s[0]'h=x:=zT s 0 x hx;have Hc:=x.toNat_lt;rw[decide_eq_true (by omega),Bool.true_and,List.head?_eq_getElem?,hx]at hR;by_cases H6:x=91
   · have gx:((x.toNat:Int) != 91)=false:=by subst H6;rfl
     rw[H6,show(some (91:UInt8)==some 91)=true from rfl,Bool.true_and]at hR;have HR:=z7 hR;have Hd:¬(s.size:Int)<3:=by omega
     clear hR H6 hx
     go_enter func82,ntmps82
     go_wp2_with fail
     go_loopw [3] (fun iv wr=>∃n:Nat,iv=.int .i64 (n:Int)∧n≤s.size∧Hid (((bl s).take n).all noB=true)∧wr=w) (fun iv _=>s.size-(intOf iv).toNat)
     case atStart=>exact⟨0,rfl,zD,z7 (by simp),rfl⟩
     case round=>
      obtain⟨n,rfl,H8,HA,rfl⟩:=hrel;have i1:IntKind.i64.wrap ((s.size:Int)-1)=(s.size:Int)-1:=wi64 _ (by omega) (by omega);by_cases H9:n<s.size
      · obtain⟨z,hz⟩:=zM (bl s) n (by rw[HL.out];exact H9)
        have Z:∀h,s[n]'h=z:=zT s n z hz;have Hb:=z.toNat_lt;by_cases H5:z=93
        · have gz:((z.toNat:Int)==93)=true:=by subst H5;rfl
          have hv:R=((n:Int)==(s.size:Int)-1):=by
           rw[HR.out,show((bl s).takeWhile fun c=>!(c==93)).length=n from y1k noB (bl s) n HA.out (by rw[HL.out];exact H8) (fun c hc=>by rw[hz]at hc;cases hc;subst H5;rfl),Bool.eq_iff_iff];simp;omega
          subst hv;clear hz H5
          go_wp2_with fail
          go_ret
          exact⟨rfl,z8⟩
        · have gz:((z.toNat:Int)==93)=false:=by rw[Y2];exact y0a z 93 (by decide) H5
          have Ha:Hid (((bl s).take (n+1)).all noB=true):=z7 ((zq noB (bl s) n z hz HA.out).1 (by simpa[noB]using H5));clear hz H5
          go_wp2_with fail
          go_roundw
          case rel=>exact⟨n+1,by first|omega|go_num,by omega,Ha,by first|exact rfl|trivial⟩
          case measure=>simp[intOf];omega
      · have H7:n=s.size:=by omega
        subst H7;have hv:R=false:=by
         have ha:=HA.out;rw[List.take_of_length_le (by rw[HL.out];exact zA)]at ha;rw[HR.out,show((bl s).takeWhile fun c=>!(c==93))=bl s from y4f noB _ ha,HL.out,Y2];omega
        subst hv
        go_wp2_with fail
        go_ret
        exact⟨rfl,z8⟩
   · have gx0:((x.toNat:Int)==91)=false:=by rw[Y2];exact y0a x 91 (by decide) H6
     have gx:((x.toNat:Int) != 91)=true:=by rw[bne,gx0];rfl
     rw[show(some x==some (91:UInt8))=false by rw[Y2];exact fun h=>H6 (zF h),Bool.false_and]at hR;subst hR;clear H6 hx
     go_enter func82,ntmps82
     go_wp2_with fail
     go_ret
     exact⟨rfl,z8⟩
def yGK:Value→Nat
 | .string s=>s.size
 | _=>0
theorem yBh(r:List UInt8):Lib.trimLeftB (32::r) 32=Lib.trimLeftB r 32:=by unfold Lib.trimLeftB;simp[List.dropWhile]
theorem yBg(l:List UInt8)(h:l.head?≠some 32):Lib.trimLeftB l 32=l:=by
 unfold Lib.trimLeftB;cases l with
 | nil=>rfl
 | cons x l=>rw[List.dropWhile_cons_of_neg];simpa using h
theorem yDD(r:List UInt8):Lib.trimRightB (r ++ [32]) 32=Lib.trimRightB r 32:=by unfold Lib.trimRightB;simp[List.dropWhile]
theorem yBf(l:List UInt8)(c:UInt8)(h:c≠32):Lib.trimRightB (l ++ [c]) 32=l ++ [c]:=by
 unfold Lib.trimRightB;rw[List.reverse_append,List.reverse_singleton,List.singleton_append,List.dropWhile_cons_of_neg (by simpa using h)];simp
theorem take_at(l:List UInt8)(k:Nat)(x:UInt8)(h:l[k]?=some x)(hk:k+1=l.length):l=l.take k ++ [x]:=by
 conv=>lhs;rw[←List.take_append_drop k l,y0f l k x h,List.drop_eq_nil_of_le (by omega)]
theorem yDl(s:ByteArray)(w:World)(hs:s.size≤1000000):Calls prog 84 #[.string s] w fun e w'=>e=.returned (.string (trB s))∧Below w.heap.size w w':=by
 obtain⟨R,hR⟩:∃R,R=Lib.trimRightB (Lib.trimLeftB (bl s) 32) 32:=⟨_,rfl⟩;have hT:trB s=⟨R.toArray⟩:=by unfold trB;rw[yDC,hR]
 rw[hT];have HR:=z7 hR;clear hR hT
 go_enter func84,ntmps84
 go_wp2
 go_loopw [0] (fun iv wr=>∃t:ByteArray,iv=.string t∧t.size≤1000000∧Hid (R=Lib.trimRightB (Lib.trimLeftB (bl t) 32) 32)∧wr=w) (fun iv _=>yGK iv)
 case atStart=>exact⟨s,rfl,hs,HR,rfl⟩
 case round=>
  obtain⟨t,rfl,ht,HT,rfl⟩:=hrel;have HL:Hid ((bl t).length=t.size):=zJ t;have H9:(0<t.size∧(bl t)[0]?=some 32)∨((t.size=0∨(0<t.size∧∃x,(bl t)[0]?=some x∧x≠32))∧(bl t).head?≠some 32):=by
   by_cases h0:t.size=0
   · exact .inr ⟨.inl h0,by rw[List.head?_eq_getElem?,List.getElem?_eq_none (by rw[HL.out];omega)];intro h;cases h⟩
   · obtain⟨x,hx⟩:=zM (bl t) 0 (by rw[HL.out];omega)
     by_cases H5:x=32
     · exact .inl ⟨by omega,by rw[hx,H5]⟩
     · exact .inr ⟨.inr ⟨by omega,x,hx,H5⟩,by rw[List.head?_eq_getElem?,hx];intro h;exact H5 (zF h)⟩
  rcases H9 with⟨h1,hx⟩|⟨H9,hh⟩
  · have X:∀h,t[0]'h=32:=zT t 0 32 hx
    have y1:(0:Int)<(t.size:Int):=by omega
    have y2:(1:Int)≤(t.size:Int):=by omega
    have Hb:Hid (R=Lib.trimRightB (Lib.trimLeftB (bl (t.extract 1 t.size)) 32) 32):=z7 (by
     rw[HT.out,y23]
     conv=>lhs;rw[show bl t=32::(bl t).drop 1 from by have:=y0f (bl t) 0 32 hx;simpa using this]
     rw[yBh])
    clear hx
    go_wp2_with fail
    go_roundw
    case rel=>exact⟨t.extract 1 t.size,rfl,by rw[zG];omega,Hb,by first|exact rfl|trivial⟩
    case measure=>simp[yGK,zG];omega
  · have Hc:Hid (R=Lib.trimRightB (bl t) 32):=z7 (by rw[HT.out,yBg _ hh])
    rcases H9 with h0|⟨h1,x,hx,H5⟩
    all_goals
     first
      | (have y1:¬(0:Int)<(t.size:Int):=by omega
         clear h0 hh)
      | (have X:∀h,t[0]'h=x:=zT t 0 x hx
         have He:=x.toNat_lt;have y1:(0:Int)<(t.size:Int):=by omega
         have gx:((x.toNat:Int)==32)=false:=by rw[Y2];exact y0a x 32 (by decide) H5
         clear hx H5 hh)
     go_wp2_with fail
     go_loopw [0] (fun iv wx=>∃t:ByteArray,iv=.string t∧t.size≤1000000∧Hid (R=Lib.trimRightB (bl t) 32)∧wx=wr) (fun iv _=>yGK iv)
     case atStart=>exact⟨t,rfl,ht,Hc,rfl⟩
     case round=>
      obtain⟨u,rfl,hu,HU,rfl⟩:=hrel;have H8:Hid ((bl u).length=u.size):=zJ u;by_cases hz:u.size=0
      · have z1:¬(0:Int)<(u.size:Int):=by omega
        have e:(⟨R.toArray⟩:ByteArray)=u:=by rw[HU.out,List.eq_nil_of_length_eq_zero (show(bl u).length=0 by rw[H8.out];exact hz)];exact(b_of (by rw[List.eq_nil_of_length_eq_zero (show(bl u).length=0 by rw[H8.out];exact hz)];rfl)).symm
        have EE:=z7 e;clear e hz
        go_wp2_with fail
        go_ret
        exact⟨by rw[EE.out];rfl,z8⟩
      · obtain⟨z,H7⟩:=zM (bl u) (u.size-1) (by rw[H8.out];omega)
        have Z:∀h,u[u.size-1]'h=z:=zT u (u.size-1) z H7;have Hd:=z.toNat_lt;have z1:(0:Int)<(u.size:Int):=by omega
        have z2:IntKind.i64.wrap ((u.size:Int)-1)=(u.size:Int)-1:=wi64 _ (by omega) (by omega);have z3:((u.size:Int)-1).toNat=u.size-1:=by omega
        have z4:(0:Int)≤(u.size:Int)-1:=by omega
        have z5:(u.size:Int)-1<(u.size:Int):=by omega
        have z6:(u.size:Int)-1≤(u.size:Int):=by omega
        have H6:=take_at (bl u) (u.size-1) z H7 (by rw[H8.out];omega);by_cases H5:z=32
        · have gz:((z.toNat:Int)==32)=true:=by subst H5;rfl
          have Ha:Hid (R=Lib.trimRightB (bl (u.extract 0 (u.size-1))) 32):=z7 (by
           rw[HU.out,y1f,List.drop_zero,Nat.sub_zero]
           conv=>lhs;rw[H6,H5]
           rw[yDD])
          clear H6 H7 H5 hz
          go_wp2_with fail
          go_roundw
          case rel=>exact⟨u.extract 0 (u.size-1),rfl,by rw[zG];omega,Ha,by first|exact rfl|trivial⟩
          case measure=>simp[yGK,zG];omega
        · have gz:((z.toNat:Int)==32)=false:=by rw[Y2];exact y0a z 32 (by decide) H5
          have e:(⟨R.toArray⟩:ByteArray)=u:=by
           have:R=bl u:=by rw[HU.out];conv=>lhs;rw[H6]
                           rw[yBf _ _ H5,←H6]
           exact b_of this
          have EE:=z7 e;clear e H6 H7 H5 hz
          go_wp2_with fail
          go_ret
          exact⟨by rw[EE.out];rfl,z8⟩
theorem yAd(s:ByteArray)(m:Nat)(w:World)(hs:s.size≤1000000)(hm:m≤1000001):Calls prog 83 #[.string s,.int .i64 (m:Int)] w fun e w'=>(∃v,e=.returned v∧w'.ownsRow w.heap.size 9 1 v (Lib.splitB coB 0 (m-1) s).length (scells (Lib.splitB coB 0 (m-1) s)))∧Below w.heap.size w w':=by
 have HL:Hid ((bl s).length=s.size):=zJ s;obtain⟨R,hR⟩:∃R,R=Lib.splitB coB 0 (m-1) s:=⟨_,rfl⟩;rw[←hR];have HR:Hid (R = []++Lib.splitB coB 0 (m-1-([]:List ByteArray).length) (s.extract 0 s.size)):=z7 (by rw[hR,show s.extract 0 s.size=s by apply ByteArray.ext;apply Array.ext';rw[zx];rfl];rfl);clear hR
 go_enter func83,ntmps83
 go_wp2
 go_loopw [5,6,7] (fun v av iv wr=>∃(a i:Nat) (A:List ByteArray),av=.int .i64 (a:Int)∧iv=.int .i64 (i:Int)∧a≤i∧i≤s.size∧A.length≤a∧(A.length=0∨A.length≤m-1)∧Hid (R=A++Lib.splitB coB 0 (m-1-A.length) (s.extract a s.size))∧Hid (∀j c,a≤j→j<i→(bl s)[j]?=some c→c≠44)∧Hid (wr.ownsRow w.heap.size 9 1 v A.length (scells A))∧Hid (Below w.heap.size w wr)) (fun _ _ iv _=>s.size-(intOf iv).toNat)
 case atStart=>exact⟨0,0,[],rfl,rfl,zA,zD,zA,.inl rfl,HR,z7 (fun j c h1 h2=>by omega),z7 (World.ownsRow_nil _ _ _ _),z7 z8⟩
 case round=>
  obtain⟨a,i,A,rfl,rfl,Hh,Hm,Hj,Hi,H8,HN,HO,HB⟩:=hrel;obtain⟨a1,c1,rfl⟩:=zL HO.out;have Hb:A.length<70368744177664:=by omega
  have Ha:(A.length+1)*16≤140737488355328:=by omega
  have i1:IntKind.i64.wrap ((m:Int)-1)=(m:Int)-1:=wi64 _ (by omega) (by omega);have i2:(a:Int)≤(i:Int):=by omega
  have i3:(i:Int)≤(s.size:Int):=by omega
  have i4:(a:Int)≤(s.size:Int):=by omega
  have i5:(0:Int)≤(a:Int):=by omega
  by_cases He:i<s.size∧A.length<m-1
  · obtain⟨Hd,Hc⟩:=He
    obtain⟨x,hx⟩:=zM (bl s) i (by rw[HL.out];exact Hd);have X:∀h,s[i]'h=x:=zT s i x hx;have Hl:=x.toNat_lt;have y1:(i:Int)<(s.size:Int):=by omega
    have y2:(A.length:Int)<(m:Int)-1:=by omega
    by_cases H6:x=44
    · have gx:((x.toNat:Int)==44)=true:=by subst H6;rfl
      have Hk:Hid (R=(A ++ [s.extract a i])++Lib.splitB coB 0 (m-1-(A ++ [s.extract a i]).length) (s.extract (i+1) s.size)):=z7 (by
       have hq:m-1-A.length=(m-1-(A.length+1))+1:=by omega
       rw[H8.out,hq,yHe s _ a i Hh Hd (by rw[hx,H6]) (fun j c h1 h2=>HN.out j c h1 h2),List.append_assoc,zH]
       rfl)
      have H9:Hid (∀j c,i+1≤j→j<i+1→(bl s)[j]?=some c→c≠44):=z7 (fun j c h1 h2=>by omega);clear hx H6
      go_wp2_with (at_builtin;refine zP rfl _ _ 131 9 rfl underlying131 (.string ⟨#[]⟩) 1 16 infoStr rfl (by decide) wr w.heap.size (.slice a1 A.length c1) A.length (scells A) rfl HO.out #[.string (s.extract a i)] rfl (by simp[Value.oneCell']) rfl Hb Ha HB.out.size ?_;intro v' w6 H5 H7 Hg)
      go_roundw
      case rel=>exact⟨i+1,i+1,A ++ [s.extract a i],by first|omega|go_num,by first|omega|go_num,zA,by omega,by rw[zH];simp;omega,.inr (by rw[zH];simp;omega),Hk,H9,z7 (by rw[zH];rw[show scells (A ++ [s.extract a i])=scells A ++ [.string (s.extract a i)] from by simp[scells]];exact H5),z7 (HB.out.trans H7)⟩
      case measure=>simp[intOf];omega
    · have gx:((x.toNat:Int)==44)=false:=by rw[Y2];exact y0a x 44 (by decide) H6
      have H9:Hid (∀j c,a≤j→j<i+1→(bl s)[j]?=some c→c≠44):=z7 (fun j c h1 h2 h3=>by
       rcases Nat.lt_or_ge j i with h4|h4
       · exact HN.out j c h1 h4 h3
       · rw[show j=i by omega,hx]at h3;cases h3;exact H6)
      clear hx H6
      go_wp2_with fail
      go_roundw
      case rel=>exact⟨a,i+1,A,rfl,by first|omega|go_num,by omega,by omega,Hj,Hi,H8,H9,HO,HB⟩
      case measure=>simp[intOf];omega
  · have hv:R=A ++ [s.extract a s.size]:=by
     rw[H8.out];by_cases hr:A.length<m-1
     · have Hn:i=s.size:=by omega
       rw[Lib.splitB_miss _ _ _ _ (yHI s a (fun k c h1 h2=>HN.out k c h1 (by have:=(List.getElem?_eq_some_iff.1 h2).1;rw[HL.out]at this;omega) h2))]
     · rw[show m-1-A.length=0 by omega,Lib.splitB_zero]
    have Hf:(i<s.size∧¬(A.length:Int)<(m:Int)-1)∨¬(i:Int)<(s.size:Int):=by
     by_cases h:i<s.size
     · exact .inl ⟨h,by omega⟩
     · exact .inr (by omega)
    have HV:=z7 hv;clear hv He;rcases Hf with⟨h1,h2⟩|h1
    all_goals
     go_wp2_with (at_builtin;refine zP rfl _ _ 131 9 rfl underlying131 (.string ⟨#[]⟩) 1 16 infoStr rfl (by decide) wr w.heap.size (.slice a1 A.length c1) A.length (scells A) rfl HO.out #[.string (s.extract a s.size)] rfl (by simp[Value.oneCell']) rfl Hb Ha HB.out.size ?_;intro v' w6 H5 H7 Hg)
     go_ret
     exact⟨⟨_,rfl,by rw[HV.out,zH,show scells (A ++ [s.extract a s.size])=scells A ++ [.string (s.extract a s.size)] from by simp[scells]];exact H5⟩,HB.out.trans H7⟩
end Go.Proofs.YtgjchmcpondogaaGreatDoor
