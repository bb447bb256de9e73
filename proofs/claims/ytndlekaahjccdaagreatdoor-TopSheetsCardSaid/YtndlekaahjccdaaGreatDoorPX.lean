/- PX -/
import Derived.Test.YtndlekaahjccdaaGreatDoorPW
set_option linter.all false
set_option maxRecDepth 100000
set_option maxHeartbeats 40000000
namespace Go.Proofs.YtndlekaahjccdaaGreatDoor
open Go Go.Rf Go.RowKit Go.Proofs.Tryz
theorem yIw(p:UInt8->Bool)(l:List UInt8)(i k:Nat)(H5:i<=k)(ha:((l.drop i).take (k-i)).all p=true)(hk:k<=l.length)(hn:∀c,l[k]?=some c->p c=false):i+((l.drop i).takeWhile p).length=k:=by
 have:=y1k p (l.drop i) (k-i) ha (by rw[List.length_drop];omega) (fun c hc=>hn c (by rw[List.getElem?_drop]at hc;rwa [show i+(k-i)=k by omega]at hc));omega
theorem yGc(p:UInt8->Bool)(l:List UInt8)(i k:Nat)(x:UInt8)(H6:i<=k)(hx:l[k]?=some x)(ha:((l.drop i).take (k-i)).all p=true)(h:p x=true):((l.drop i).take (k+1-i)).all p=true:=by
 have H5:(l.drop i)[k-i]?=some x:=by rw[List.getElem?_drop,show i+(k-i)=k by omega];exact hx
 have:=(zr p (l.drop i) (k-i) x H5 ha).1 h
 rwa [show k-i+1=k+1-i by omega]at this
theorem yCT(w r:List UInt8)(h0:w≠remL)(h1:w≠titL)(h2:w≠perL)(h3:w≠sonL)(h4:w≠filL):y3y w r=y8X w r:=by
 unfold y3y y8X;rw[if_neg h0,if_neg (by rintro(h|h|h)<;>contradiction),if_neg h4,yGs,yHz]
theorem wd_ext(s:ByteArray)(J:Nat)(hJ:wdJ (bl s)=J):(s.extract (wdI (bl s)) J).toList=wdW (bl s):=by
 rw[ByteArray.toList_eq,<-hJ];exact y4n s
theorem y8u{x:ByteArray}{l m:List UInt8}(h:x.toList=l)(v:Bool)(hv:decide (l=m)=v):(x.toList==m)=v:=by
 rw[h,<-hv];by_cases e:l=m
 . subst e;simp
 . simp[e]
theorem y9k(s:ByteArray)(w:World)(hG:GW w)(hs:s.size<=1000000):Calls prog 24 #[.string s] w fun e w'=>(∃x,e=.returned (.tuple #[x,.bool (y3O (bl s))])/\(y3O (bl s)=true->y1q w' x (cueL s).length (pcC (cueL s))))/\Below w.heap.size w w':=by
 have HL:Hid ((bl s).length=s.size):=zJ s;obtain⟨V,hV⟩:∃V,V=y3O (bl s):=⟨_,rfl⟩;obtain⟨A,hA⟩:∃A,A=cueL s:=⟨_,rfl⟩;rw[<-hV,<-hA];have HV:=z7 hV;have HA:=z7 hA;have nil9:=fun(w:World)=>World.ownsRow_nil w w.heap.size 99 3
 have HG:=z7 hG;have KM:=z7 (fun w=>yEI (.slice none 0 0) [] w.heap.size s w (nil9 w) (by decide) zA);have KP:=z7 (fun t w=>zb (.slice none 0 0) [] w.heap.size t w (nil9 w) (by decide) zA);clear hV hG hA nil9
 go_enter func24,ntmps24
 go_wp2
 go_loopw [4] (fun i wr=>∃k:Nat,i=.int .i64 (k:Int)/\k<=s.size/\Hid (((bl s).take k).all blB=true)/\wr=w) (fun i _=>s.size-(intOf i).toNat)
 case atStart=>exact⟨0,rfl,zD,z7 (by simp),rfl⟩
 case round=>
  obtain⟨k,rfl,hk,hR,rfl⟩:=hrel;have Hc:(k<s.size/\∃x,(bl s)[k]?=some x/\blB x=true)\/(k=s.size\/(k<s.size/\∃x,(bl s)[k]?=some x/\blB x=false)):=by
   by_cases Hd:k<s.size
   . obtain⟨x,hx⟩:=zM (bl s) k (by rw[HL.out];exact Hd)
     cases hc:blB x with
     | true=>exact .inl ⟨Hd,x,hx,hc⟩
     | false=>exact .inr (.inr ⟨Hd,x,hx,hc⟩)
   . exact .inr (.inl (by omega))
  rcases Hc with⟨Hd,x,hx,hc⟩|Hc
  . have X:∀h,s[k]'h=x:=zS s k x hx
    obtain⟨h1,h2⟩:=zr blB (bl s) k x hx hR.out;have e:=h1 hc;have E:=z7 e;clear e;clear h1 h2 hx;have g:x=32\/x=9:=by simpa[blB]using hc
    clear hc;rcases g with rfl|rfl
    all_goals
     go_wp2
     go_roundw
     case rel=>exact⟨k+1,by first|omega|go_num,by omega,E,trivial⟩
     case measure=>simp[intOf];omega
  . have hI:wdI (bl s)=k:=by
     refine y1k blB (bl s) k hR.out (by rw[HL.out];exact hk) (fun c hc=>?_);rcases Hc with h|⟨_,x,hx,hb⟩
     . have:=(List.getElem?_eq_some_iff.1 hc).1;rw[HL.out]at this;omega
     . rw[hx]at hc;cases hc;exact hb
    have HI:=z7 hI;clear hI hR;rcases Hc with Hy|⟨Hd,x,hx,hb⟩
    . subst Hy
      have hJ:wdJ (bl s)=s.size:=by have h1:=yAq (bl s);have h2:=y4p (bl s);rw[HI.out]at h1;rw[HL.out]at h2;omega
      have hv:V=true:=by rw[HV.out,y6a _ (by rw[HI.out,hJ]),hJ,HL.out];exact decide_eq_true rfl
      have hE:(s.extract s.size s.size).toList.isEmpty=true:=by
       rw[ByteArray.toList_eq,List.isEmpty_iff];apply List.eq_nil_of_length_eq_zero;show(s.extract s.size s.size).size=0;rw[zG];omega
      have ha:A = []++mkL s:=by
       rw[HA.out];unfold cueL;rw[if_pos HI.out];unfold mkL;by_cases h0:s.size=0
       . rw[if_pos h0,if_neg (by omega)];rfl
       . rw[if_neg h0,if_pos (by omega)];rfl
      have H8:=z7 ha;subst hv;clear hk HI hJ ha
      go_wp2_with fail
      go_loopw [5] (fun j wx=>j=.int .i64 (s.size:Int)/\wx=wr) (fun _ _=>0)
      case atStart=>exact⟨rfl,rfl⟩
      case round=>
       obtain⟨rfl,rfl⟩:=hrel
       go_wp2_with (go_at_call 25;(with_reducible refine(KM.out _).mono ?_);rintro e w1 ⟨⟨v,rfl,H5⟩,H7⟩)
       go_ret2
       exact⟨⟨_,rfl,by first|(intro _;rw[H8.out];exact zZ H5)|(rw[H8.out];exact zZ H5)⟩,H7⟩
    . have X:∀h,s[k]'h=x:=zS s k x hx
      have kx:=x.toNat_lt;have g1:((x.toNat:Int)==32)=false:=by rw[Y2];exact y0c x 32 (by decide) (by intro h;subst h;cases hb)
      have g2:((x.toNat:Int)==9)=false:=by rw[Y2];exact y0c x 9 (by decide) (by intro h;subst h;cases hb)
      clear hx hb
      go_wp2_with fail
      go_loopw [5] (fun j wx=>∃m:Nat,j=.int .i64 (m:Int)/\k<=m/\m<=s.size/\Hid ((((bl s).drop k).take (m-k)).all azB=true)/\wx=wr) (fun j _=>s.size-(intOf j).toNat)
      case atStart=>exact⟨k,rfl,zA,hk,z7 (by simp),rfl⟩
      case round=>
       obtain⟨m,rfl,Hs,Hv,hR,rfl⟩:=hrel;have Hc:(m<s.size/\∃y,(bl s)[m]?=some y/\azB y=true)\/(m=s.size\/(m<s.size/\∃y,(bl s)[m]?=some y/\azB y=false)):=by
        by_cases Hd:m<s.size
        . obtain⟨y,hy⟩:=zM (bl s) m (by rw[HL.out];exact Hd)
          cases hc:azB y with
          | true=>exact .inl ⟨Hd,y,hy,hc⟩
          | false=>exact .inr (.inr ⟨Hd,y,hy,hc⟩)
        . exact .inr (.inl (by omega))
       rcases Hc with⟨Hw,y,hy,hc⟩|Hc
       . have X:∀h,s[m]'h=y:=zS s m y hy
         have Ht:=y.toNat_lt;have e:=yGc azB (bl s) k m y Hs hy hR.out hc;have E:=z7 e;clear e;have g:(65:Int)<=(y.toNat:Int)/\(y.toNat:Int)<=90:=by simp[azB]at hc;omega
         obtain⟨g1,g2⟩:=g;clear hy hc hR
         go_wp2_with fail
         go_roundw
         case rel=>exact⟨m+1,by first|omega|go_num,by omega,by omega,E,trivial⟩
         case measure=>simp[intOf];omega
       . have hJ:wdJ (bl s)=m:=by
          unfold wdJ;rw[HI.out];refine yIw azB (bl s) k m Hs hR.out (by rw[HL.out];exact Hv) (fun c hc=>?_);rcases Hc with h|⟨_,y,hy,hb⟩
          . have:=(List.getElem?_eq_some_iff.1 hc).1;rw[HL.out]at this;omega
          . rw[hy]at hc;cases hc;exact hb
         have hw:(s.extract k m).toList=wdW (bl s):=by have:=wd_ext s m hJ;rwa [HI.out]at this
         have hz:(s.extract k m).toList.isEmpty=decide (k=m):=by
          rw[ByteArray.toList_eq,Bool.eq_iff_iff,List.isEmpty_iff,decide_eq_true_iff,<-List.length_eq_zero_iff];show(s.extract k m).size=0↔_;rw[zG];omega
         have HJ:=z7 hJ;have HW:=z7 hw;have HZ:=z7 hz;have i0:(0:Int)<=(k:Int):=by omega
         have i1:(k:Int)<=(m:Int):=by omega
         have i2:(m:Int)<=(s.size:Int):=by omega
         clear hJ hw hz hR;rcases Hc with Hr|⟨Hw,y,hy,hb⟩
         . by_cases H6:k=m
           . omega
           . have hE:=HZ.out
             rw[decide_eq_false H6]at hE;have hv:V=(wdW (bl s)==remL):=by rw[HV.out,y6Z _ (by rw[HI.out,HJ.out];exact H6),HJ.out,HL.out,if_pos Hr]
             obtain⟨q,hq⟩:∃q,((s.extract k m).toList == [82,69,77])=q:=⟨_,rfl⟩;have Hu:V=q:=by rw[hv,<-hq,HW.out];rfl
             have ha:A = [] ++ [mkP s]:=by rw[HA.out];unfold cueL;rw[if_neg (by rw[HI.out];omega),if_pos (by rw[HJ.out];omega)];rfl
             have H8:=z7 ha;clear ha;subst Hu;subst Hr;have KP1:=z7 (fun w=>KP.out s w);clear hv HJ HW HZ HI
             go_wp2_with (go_at_call 27;(with_reducible refine(KP1.out _).mono ?_);rintro e w1 ⟨⟨v,rfl,H5⟩,H7⟩)
             go_ret2
             exact⟨⟨_,by first|rfl|rw[hq],by first|(intro _;rw[H8.out];exact zZ H5)|(rw[H8.out];exact zZ H5)⟩,H7⟩
         . have Y:∀h,s[m]'h=y:=zS s m y hy
           have Ht:=y.toNat_lt;have Hn:¬((m:Int)==(s.size:Int))=true:=by simp;omega
           have ky:((m:Int)==(s.size:Int))=false:=by simpa using Hn
           have gy:(y.toNat:Int)<65\/(65:Int)<=(y.toNat:Int)/\(90:Int)<(y.toNat:Int):=by simp[azB]at hb;omega
           by_cases H6:k=m
           . have hE:=HZ.out
             rw[decide_eq_true H6]at hE;have hv:V=false:=by rw[HV.out,y6a _ (by rw[HI.out,HJ.out];exact H6),HJ.out,HL.out];exact decide_eq_false (by omega)
             subst hv;clear hb hy HJ HW HZ HI Hn H6;rcases gy with g|⟨g,g'⟩
             all_goals
              go_wp2_with (go_at_call 25;(with_reducible refine(KM.out _).mono ?_);rintro e w1 ⟨⟨v,rfl,H5⟩,H7⟩)
              go_ret2
              first|exact⟨⟨_,rfl,fun h=>by cases h⟩,H7⟩|exact⟨⟨_,rfl⟩,H7⟩
           . have hE:=HZ.out
             rw[decide_eq_false H6]at hE;have hv:=y6Z (bl s) (by rw[HI.out,HJ.out];exact H6);rw[HJ.out,HL.out,if_neg (by omega),hy,<-HV.out]at hv;by_cases He:y=32
             . subst He
               rw[if_neg (by simp)]at hv;have Hh:=z7 hv;have H9:A=(if wdW (bl s)=remL then [mkP (s.extract 0 (m+1)),txP reN (s.extract (m+1) s.size)]else if wdW (bl s)=titL then valP s tiN (m+1) s.size else if wdW (bl s)=perL then valP s peN (m+1) s.size else if wdW (bl s)=sonL then valP s soN (m+1) s.size
                else if wdW (bl s)=filL then(match y62 ((bl s).drop (m+1))with|some k=>valP s fiN (m+1) (m+1+k)|none=>[])else [mkP s]):=by
                rw[HA.out];unfold cueL;rw[if_neg (by rw[HI.out];omega),if_neg (by rw[HJ.out];omega),HJ.out];rfl
               have Hi:=z7 H9;clear H9;have Ha:bl (s.extract (m+1) s.size)=(bl s).drop (m+1):=by rw[y3k s (m+1) (by omega)]
               have Hl:=z7 Ha;have j0:(0:Int)<=(m:Int)+1:=by omega
               have j1:(m:Int)+1<=(s.size:Int):=by omega
               have j2:((m:Int)+1).toNat=m+1:=by omega
               have j3:IntKind.i64.wrap ((m:Int)+1)=(m:Int)+1:=wi64 _ (by omega) (by omega);have kn:∀(nm:ByteArray) w',Below wr.heap.size wr w'->Calls prog 46 #[.string s,.int .i64 ((m:Int)+1),.int .i64 (s.size:Int),.string nm] w' fun e w''=>(∃x,e=.returned (.tuple #[x,.bool (valR ((bl s).drop (m+1)))])/\(valR ((bl s).drop (m+1))=true->y1q w'' x (valP s nm (m+1) s.size).length (pcC (valP s nm (m+1) s.size))))/\Below w'.heap.size w' w'':=fun nm w' Hj=>by
                have:=y6J s nm (m+1) s.size w' (HG.out.bel Hj) hs (by omega) zA;rw[Ha]at this;exact this
               have KN:=z7 kn;clear hv hb hy HZ Hn gy H6 kn Ha;by_cases h0:wdW (bl s)=remL
               . have r0:((s.extract k m).toList == [82,69,77])=true:=by rw[HW.out,h0];rfl
                 have hv:V=true:=by rw[Hh.out,h0];rfl
                 have ha:=Hi.out;rw[if_pos h0]at ha;have H8:=z7 ha;subst hv;clear h0 KN HW HI HJ Hl Hh Hi ha
                 go_wp2_with fail
                 go_region_with (first
                  | (go_at_call 27;go_loud  (refine(KP.out _ _).mono ?_);go_loud  (rintro e w1 ⟨⟨v,rfl,H5⟩,H7⟩))
                  | (go_at_call 29;go_loud  (refine(y09 _ _ _ _ _ _ H5 (by show 1<_;decide) H7.size).mono ?_);go_loud  (rintro e w2 ⟨⟨v2,rfl,Hf⟩,Hg⟩)))
                 all_goals
                  go_wp2_with fail
                  go_ret2
                  exact⟨⟨_,rfl,by first|(intro _;rw[H8.out];exact zZ Hf)|(rw[H8.out];exact zZ Hf)⟩,bt (z8).drew (H7.trans (Hg.mono zA))⟩
               . have r0:((s.extract k m).toList == [82,69,77])=false:=y8u HW.out _ (decide_eq_false h0)
                 by_cases h1:wdW (bl s)=titL\/wdW (bl s)=perL\/wdW (bl s)=sonL
                 . have hv:V=valR ((bl s).drop (m+1)):=by rw[Hh.out];unfold y3y;rw[if_neg h0,if_pos h1,y6p]
                   have hf:((s.extract k m).toList == [84,73,84,76,69])=true\/(((s.extract k m).toList == [84,73,84,76,69])=false/\((s.extract k m).toList == [80,69,82,70,79,82,77,69,82])=true)\/(((s.extract k m).toList == [84,73,84,76,69])=false/\((s.extract k m).toList == [80,69,82,70,79,82,77,69,82])=false/\((s.extract k m).toList == [83,79,78,71,87,82,73,84,69,82])=true):=by
                    rw[HW.out];rcases h1 with h|h|h
                    . rw[h];exact .inl rfl
                    . rw[h];exact .inr (.inl ⟨rfl,rfl⟩)
                    . rw[h];exact .inr (.inr ⟨rfl,rfl,rfl⟩)
                   rw[<-hv]at KN;have hg:(((s.extract k m).toList == [84,73,84,76,69])=true/\A=valP s tiN (m+1) s.size)\/(((s.extract k m).toList == [84,73,84,76,69])=false/\((s.extract k m).toList == [80,69,82,70,79,82,77,69,82])=true/\A=valP s peN (m+1) s.size)\/(((s.extract k m).toList == [84,73,84,76,69])=false/\((s.extract k m).toList == [80,69,82,70,79,82,77,69,82])=false/\((s.extract k m).toList == [83,79,78,71,87,82,73,84,69,82])=true/\A=valP s soN (m+1) s.size):=by
                    have H9:=Hi.out;rw[if_neg h0]at H9;rw[HW.out];rcases h1 with h|h|h
                    . rw[if_pos h]at H9;rw[h];exact .inl ⟨rfl,H9⟩
                    . rw[if_neg (by rw[h];decide),if_pos h]at H9;rw[h];exact .inr (.inl ⟨rfl,rfl,H9⟩)
                    . rw[if_neg (by rw[h];decide),if_neg (by rw[h];decide),if_pos h]at H9;rw[h];exact .inr (.inr ⟨rfl,rfl,rfl,H9⟩)
                   clear h1 hf Hi;rcases hg with⟨q,ha⟩|⟨q,q',ha⟩|⟨q,q',q'',ha⟩
                   all_goals
                    have H8:=z7 ha;clear ha;clear hv HW HI HJ Hl Hh h0 HV
                    go_wp2_with (go_at_call 46;refine(KN.out _ _ z8).mono ?_;rintro e w1 ⟨⟨x,rfl,hx⟩,H7⟩)
                    go_ret2
                    exact⟨⟨_,rfl,fun h=>by rw[H8.out];exact hx h⟩,H7⟩
                 . have r1:((s.extract k m).toList == [84,73,84,76,69])=false:=y8u HW.out _ (decide_eq_false fun h=>h1 (.inl h))
                   have r2:((s.extract k m).toList == [80,69,82,70,79,82,77,69,82])=false:=y8u HW.out _ (decide_eq_false fun h=>h1 (.inr (.inl h)));have r3:((s.extract k m).toList == [83,79,78,71,87,82,73,84,69,82])=false:=y8u HW.out _ (decide_eq_false fun h=>h1 (.inr (.inr h)));by_cases h4:wdW (bl s)=filL
                   . have r4:((s.extract k m).toList == [70,73,76,69])=true:=by rw[HW.out,h4];rfl
                     have hv:V=(match y62 ((bl s).drop (m+1))with|none=>false|some k=>cpsL (((bl s).drop (m+1)).drop (k+1))&&valR (((bl s).drop (m+1)).take k)):=by
                      rw[Hh.out];unfold y3y;rw[if_neg h0,if_neg h1,if_pos h4];cases y62 ((bl s).drop (m+1))<;>simp[y6p]
                     obtain⟨r,hr⟩:∃r,r=(bl s).drop (m+1):=⟨_,rfl⟩;have Hq:r.length=s.size-(m+1):=by rw[hr,List.length_drop,HL.out]
                     rw[<-hr]at hv;have H9:=Hi.out;rw[if_neg h0,if_neg (fun h=>h1 (.inl h)),if_neg (fun h=>h1 (.inr (.inl h))),if_neg (fun h=>h1 (.inr (.inr h))),if_pos h4,<-hr]at H9;have k9:=z7 H9;clear H9 Hi;have Hk:=z7 hv;have Hp:=z7 hr;have Hz:=z7 Hq;clear hv hr Hq KN HW HI HJ Hl Hh h0 h1 h4 HV
                     go_wp2_with fail
                     go_loopw [7] (fun q wx=>∃n:Nat,q=.int .i64 ((m+n:Nat):Int)/\m+1+n<=s.size/\Hid (y62 r=fB r n)/\wx=wr) (fun q _=>(intOf q).toNat)
                     case atStart=>exact⟨s.size-(m+1),by first|omega|go_num,by omega,z7 (show fB r r.length=_ by rw[Hz.out]),rfl⟩
                     case round=>
                      obtain⟨n,rfl,hn,hF,rfl⟩:=hrel;by_cases hz:n=0
                      . subst hz
                        have hv:V=false:=by rw[Hk.out,hF.out,yJs]
                        subst hv;have z1:¬(((m+0:Nat):Int) > (m:Int)):=by omega
                        clear Hk hF
                        go_wp2_with fail
                        go_ret2
                        first|exact⟨⟨_,rfl,fun h=>by cases h⟩,z8⟩|exact⟨⟨_,rfl⟩,z8⟩
                      . obtain⟨n,rfl⟩:∃n',n=n'+1:=⟨n-1,by omega⟩
                        have Hb:=hF.out;rw[yAO]at Hb;obtain⟨c,hc⟩:=zM (bl s) (m+(n+1)) (by rw[HL.out];omega);have C:∀h,s[m+(n+1)]'h=c:=zS s _ c hc;have H9:=c.toNat_lt;have Hm:r[n]?=some c:=by rw[Hp.out,List.getElem?_drop,show m+1+n=m+(n+1) by omega];exact hc
                        rw[Hm]at Hb;have y0:(0:Int)<=((m+(n+1):Nat):Int):=by omega
                        have y1:((m+(n+1):Nat):Int) > (m:Int):=by omega
                        have y2:((m+(n+1):Nat):Int)<(s.size:Int):=by omega
                        by_cases He:c=32
                        . subst He
                          rw[if_pos rfl]at Hb;have y3:(0:Int)<=((m+(n+1):Nat):Int)+1:=by omega
                          have y4:((m+(n+1):Nat):Int)+1<=(s.size:Int):=by omega
                          have y5:(((m+(n+1):Nat):Int)+1).toNat=m+(n+1)+1:=by omega
                          have hv:=Hk.out;rw[Hb]at hv;simp only at hv;have ha:=k9.out;rw[Hb]at ha;simp only at ha;rw[show m+1+n=m+(n+1) by omega]at ha;have H8:=z7 ha;clear ha;have kc:∀w',Calls prog 47 #[.string (s.extract (m+(n+1)+1) s.size)] w' fun e w''=>e=.returned (.bool (cpsL (r.drop (n+1))))/\Below w'.heap.size w' w'':=fun w'=>by
                           have:=y8T (s.extract (m+(n+1)+1) s.size) w' (by rw[zG];omega)
                           rwa [show bl (s.extract (m+(n+1)+1) s.size)=r.drop (n+1) from by rw[y3k s _ (by omega),Hp.out,List.drop_drop,show m+1+(n+1)=m+(n+1)+1 by omega]]at this
                          have kn:∀w',Below wr.heap.size wr w'->Calls prog 46 #[.string s,.int .i64 ((m:Int)+1),.int .i64 ((m+(n+1):Nat):Int),.string ⟨#[102,105,108,101]⟩] w' fun e w''=>(∃x,e=.returned (.tuple #[x,.bool (valR (r.take n))])/\(valR (r.take n)=true->y1q w'' x (valP s fiN (m+1) (m+(n+1))).length (pcC (valP s fiN (m+1) (m+(n+1))))))/\Below w'.heap.size w' w'':=fun w' Hj=>by
                           have:=y6J s ⟨#[102,105,108,101]⟩ (m+1) (m+(n+1)) w' (HG.out.bel Hj) hs (by omega) (by omega);rw[show bl (s.extract (m+1) (m+(n+1)))=r.take n from by
                            show(s.extract (m+1) (m+(n+1))).data.toList=_;rw[y3j s _ _ (by omega) (by omega),Hp.out];congr 1;omega]at this
                           exact this
                          have KC:=z7 kc;cases Ho:cpsL (r.drop (n+1))with
                          | true=>
                           rw[Ho]at hv kc;rw[Bool.true_and]at hv;rw[<-hv]at kn;have KC:=z7 kc;have KN:=z7 kn;clear kc kn hv Ho Hb hF Hk hc Hm
                           go_wp2_with (first
                            | (go_at_call 47;refine(KC.out _).mono ?_;rintro e w1 ⟨rfl,H7⟩)
                            | (go_at_call 46;refine(KN.out _ H7).mono ?_;rintro e w2 ⟨⟨x,rfl,hx⟩,Hg⟩))
                           go_ret2
                           exact⟨⟨_,rfl,fun h=>by rw[H8.out];exact hx h⟩,bt H7 Hg⟩
                          | false=>
                           rw[Ho]at hv kc;rw[Bool.false_and]at hv;subst hv;have KC:=z7 kc;clear kc kn Ho Hb hF Hk hc Hm
                           go_wp2_with (first
                            | (go_at_call 47;refine(KC.out _).mono ?_;rintro e w1 ⟨rfl,H7⟩)
                            | fail)
                           go_ret2
                           first|exact⟨⟨_,rfl,fun h=>by cases h⟩,H7⟩|exact⟨⟨_,rfl⟩,H7⟩
                        . rw[if_neg (fun h=>He (zF h))]at Hb
                          have g5:((c.toNat:Int)==32)=false:=by rw[Y2];exact y0c c 32 (by decide) He
                          have HQ:=z7 Hb;clear Hb hF hc Hm He
                          go_wp2_with fail
                          go_roundw
                          case rel=>exact⟨n,by first|omega|go_num,by omega,HQ,trivial⟩
                          case measure=>simp[intOf];omega
                   . have r4:((s.extract k m).toList == [70,73,76,69])=false:=y8u HW.out _ (decide_eq_false h4)
                     have hv:V=y8X (wdW (bl s)) ((bl s).drop (m+1)):=by rw[Hh.out,yCT _ _ h0 (fun h=>h1 (.inl h)) (fun h=>h1 (.inr (.inl h))) (fun h=>h1 (.inr (.inr h))) h4]
                     have kq:∀w',Below wr.heap.size wr w'->Calls prog 48 #[.string (s.extract k m),.string (s.extract (m+1) s.size)] w' fun e w''=>e=.returned (.bool V)/\Below w'.heap.size w' w'':=fun w' Hj=>by
                      have:=yCR (s.extract k m) (s.extract (m+1) s.size) w' (HG.out.bel Hj) (by rw[zG];omega);rw[Hl.out,show bl (s.extract k m)=wdW (bl s) from by rw[<-HW.out,ByteArray.toList_eq],<-hv]at this;exact this
                     have ha:=Hi.out;rw[if_neg h0,if_neg (fun h=>h1 (.inl h)),if_neg (fun h=>h1 (.inr (.inl h))),if_neg (fun h=>h1 (.inr (.inr h))),if_neg h4]at ha;have H8:=z7 ha;clear ha Hi;have KQ:=z7 kq;clear hv kq KN HW HI HJ Hl Hh h0 h1 h4 HV
                     go_wp2_with fail
                     go_region_with (first
                      | (go_at_call 27;go_loud  (refine(KP.out _ _).mono ?_);go_loud  (rintro e w1 ⟨⟨v,rfl,H5⟩,H7⟩))
                      | (go_at_call 48;go_loud  (refine(KQ.out _ (by first|exact(z8).drew|exact bt (z8).drew H7)).mono ?_);go_loud  (rintro e w2 ⟨rfl,Hg⟩)))
                     all_goals
                      go_wp2_with fail
                      go_ret2
                      first
                       | exact⟨⟨_,rfl,by first|(intro _;rw[H8.out];exact zZ (zK H5 Hg))|(rw[H8.out];exact zZ (zK H5 Hg))⟩,bt (bt (z8).drew H7) Hg⟩
                       | exact⟨⟨_,rfl,by first|(intro _;rw[H8.out];exact zZ H5)|(rw[H8.out];exact zZ H5)⟩,bt (bt (z8).drew Hg) H7⟩
             . rw[if_pos (fun h=>He (zF h))]at hv
               have g3:((y.toNat:Int)==32)=false:=by rw[Y2];exact y0c y 32 (by decide) He
               have g4:((y.toNat:Int) != 32)=true:=by rw[bne,g3];rfl
               subst hv;clear hb hy HJ HW HZ HI Hn H6 He;rcases gy with g|⟨g,g'⟩
               all_goals
                go_wp2_with fail
                go_ret2
                first|exact⟨⟨_,rfl,fun h=>by cases h⟩,z8⟩|exact⟨⟨_,rfl⟩,z8⟩
