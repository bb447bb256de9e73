/- PY -/
import Derived.Test.YtndlekaahjccdaaGreatDoorPX
set_option linter.all false
set_option maxRecDepth 100000
set_option maxHeartbeats 40000000
namespace Go.Proofs.YtndlekaahjccdaaGreatDoor
open Go Go.Rf Go.RowKit Go.Proofs.Tryz
def RefR(r:List Pc ⊕ Nat)(w:World)(e:Ending)(w':World):Prop:=
 Below w.heap.size w w'/\((∃a:Nat,r=.inr a/\e=.returned (.tuple #[.slice none 0 0,.int .i64 a])) \/
  ∃l v,r=.inl l/\e=.returned (.tuple #[v,.int .i64 (-1)])/\w'.ownsRow w.heap.size 99 3 v l.length (pcC l))
theorem y7U(b:ByteArray)(e d:Nat)(h1:e<=d)(h2:d<=b.size):mkL (b.extract e d)=(if e<d then [mkP (b.extract e d)]else []):=by
 unfold mkL;rw[zG];by_cases h:e<d
 . rw[if_pos h,if_pos (by omega)]
 . rw[if_neg h,if_neg (by omega)]
theorem y3L{α:Type}{l:List α}{k:Nat}{x:α}{r:List α}(h:l.drop k=x::r):l[k]?=some x/\l.drop (k+1)=r/\k<l.length:=by
 have h1:k<l.length:=by
  rcases Nat.lt_or_ge k l.length with h1|h1
  . exact h1
  . rw[List.drop_eq_nil_of_le h1]at h;cases h
 rw[List.drop_eq_getElem_cons h1]at h;cases h;exact⟨List.getElem?_eq_getElem h1,rfl,h1⟩
theorem y9r(b:ByteArray)(w:World)(hG:GW w)(hs:b.size<=1000):Calls prog 15 #[.string b] w (RefR (cueM b) w):=by
 have HL:Hid ((bl b).length=b.size):=zJ b;obtain⟨L,hL⟩:∃L,L=lnF (bl b) 0:=⟨_,rfl⟩;have k1:=y2K b w (by omega);have Ht:=y1a b;obtain⟨R,hR⟩:∃R,R=cueM b:=⟨_,rfl⟩;rw[<-hR];rw[<-hL]at k1 Ht;unfold cueM at hR;have K1:=z7 k1;have K2:=z7 (fun(s:ByteArray) (w':World) (h:Below w.heap.size w w') (hz:s.size<=1000)=>y9k s w' (hG.bel h) (by omega));have Hu:=z7 hR;have Hv:=z7 hL;clear k1 hR hL hG
 go_enter func15,ntmps15
 go_wp2_with (go_at_call 23;(with_reducible refine(K1.out).mono ?_);rintro e w1 ⟨v,rfl,H7,Hk⟩;obtain⟨a1,c1,rfl⟩:=zN H7)
 have HR:=z7 (y01 H7);have He:=z7 Hk;clear H7 Hk
 go_loopw [4,6] (fun v iv wr=>∃(k a:Nat) (A:List Pc),iv=.int .i64 (k:Int)/\a<=b.size/\Hid (L.drop k=lnF (bl b) a)/\Hid (R=outP (walkS cueS b () A (lnF (bl b) a)))/\Hid (wr.ownsRow w1.heap.size 99 3 v A.length (pcC A))/\Hid (Below w1.heap.size w1 wr)/\A.length<=3*a) (fun _ iv _=>L.length-(intOf iv).toNat)
 case atStart=>exact⟨0,0,[],rfl,zD,Hv,Hu,z7 (World.ownsRow_nil _ _ _ _),z7 z8,zD⟩
 case round=>
  obtain⟨k,a,A,rfl,Hs,HD,HA,HO,HB,kA⟩:=hrel;by_cases Hi:a<b.size
  . obtain⟨E,hE⟩:∃E,E=nxE (bl b) a:=⟨_,rfl⟩
    obtain⟨D,hD⟩:∃D,D=nxB (bl b) E:=⟨_,rfl⟩;have H5:=zq (bl b) a (by rw[HL.out];exact Hi);have e1:a<=E:=by rw[hE];exact y20 _ _
    have e2:E<=b.size:=by rw[hE,<-HL.out];exact y2g _ _ (by rw[HL.out];exact Hs)
    have e3:E<=D:=by rw[hD];exact y3C _ _
    have e4:D<=b.size:=by rw[hD,<-HL.out];exact y41 _ _ (by rw[HL.out];exact e2)
    have e5:a<D:=by rw[hD,hE];exact y5J _ _ (by rw[HL.out];exact Hi)
    rw[<-hE,<-hD]at H5;obtain⟨hp,hd,Hz⟩:=y3L (HD.out.trans H5);have H6:=HA.out;rw[H5]at H6;unfold walkS at H6;obtain⟨g,o,c',e,_⟩:=y0X HR.out _ _ (y0J b L k _ hp 0 _ rfl);simp only[Value.slice.injEq]at e;obtain⟨rfl,_,rfl⟩:=e;have hw:∀w' (h:Below w1.heap.size w1 w'),_:=fun w' h=>y1V (HR.out.keep h) k (a,E,D) hp
    obtain⟨S,hS⟩:∃S,S=b.extract a E:=⟨_,rfl⟩;have kz:S.size=E-a:=by rw[hS,zG];omega
    have Hg:=y7U b E D e3 e4;obtain⟨N,hN⟩:∃N,N=b.extract E D:=⟨_,rfl⟩;simp only at hw;rw[<-hN]at Hg;rw[<-hS]at H6;simp only[<-hS,<-hN]at hw;have kx:=y7v S;have Ha:=fun w' h=>K2.out S w' h (by omega)
    rw[<-hN]at H6;have HW:=z7 hw;have Hh:=z7 (He.out.trans (HB.out.mono He.out.size));obtain⟨p0,p1,p2⟩:=HW.out wr HB.out;have z1:=HB.out.size;cases hc:y3O (bl S)with
    | false=>
     rw[hc]at Ha;rw[show cueS () S=none by unfold cueS;rw[hc];rfl]at H6;simp only at H6;have K3:=z7 Ha;have Hf:=z7 H6;clear Ha H6 hw hc hp hd H5 Hg hN hS hE hD
     go_upto_region 8 with(go_at_call 24;refine(K3.out _ Hh.out).mono ?_;rintro e w2 ⟨⟨x,rfl,hx⟩,Hd⟩;obtain⟨r0,r1,r2⟩:=HW.out w2 (HB.out.trans (Hd.mono HB.out.size)))
     go_region
     go_wp2
     go_ret2
     exact⟨(Hh.out.trans (Hd.mono Hh.out.size)).drew,.inl ⟨a,Hf.out,rfl⟩⟩
    | true=>
     rw[hc]at Ha;rw[show cueS () S=some ((),cueL S) by unfold cueS;rw[hc];rfl]at H6;simp only at H6;rw[<-Hg]at H6;have K3:=z7 Ha;have Hf:=z7 H6;have Hw:=z7 hd;have Hy:(mkL N).length<=D-E:=by unfold mkL;split<;>simp<;>(have:N.size=D-E:=by rw[hN,zG];omega)<;>omega
     have Hn:A.length+(cueL S).length<70368744177664:=by omega
     have Hm:(A.length+(cueL S).length)*40<=140737488355328:=by omega
     have Hl:(A++cueL S).length<1000000:=by rw[zH];omega
     obtain⟨va,vc,rfl⟩:=zN HO.out;clear Ha H6 hw hc hp hd H5 Hg hN hS hE hD
     go_wp2_with (first
      | (go_at_call 24;refine(K3.out _ Hh.out).mono ?_;rintro e w2 ⟨⟨x,rfl,hx⟩,Hd⟩;have Ho:=hx (by trivial);have Hp:=zK HO.out Hd;have Hj:=HB.out.trans (Hd.mono HB.out.size))
      | (at_builtin;refine y0C rfl _ _ 29 99 rfl underlying29 Y3 3 40 infoPc rfl (by decide) w2 w1.heap.size (.slice va A.length vc) A.length (pcC A) rfl Hp x (cueL S).length (pcC (cueL S)) rfl Ho (y0N _) (y5D _) Hn Hm Hj.size ?_;intro v3 w3 Hc Hr k9;have H9:=Hj.trans Hr;obtain⟨r0,r1,r2⟩:=HW.out w3 H9)
      | (go_at_call 25;(refine(yEI v3 (A++cueL S) w1.heap.size N w3 (by rw[zo,zH];exact Hc) Hl H9.size).mono ?_);rintro e w4 ⟨⟨v4,rfl,Hb⟩,Hq⟩))
     go_roundw
     case rel=>exact⟨k+1,D,A++cueL S++mkL N,by first|omega|go_num,e4,Hw,Hf,z7 Hb,z7 (H9.trans Hq),by rw[zH,zH];omega⟩
     case measure=>simp[intOf];omega
  . have ky:a=b.size:=by omega
    have H8:=y0u (bl b) a (by rw[HL.out];omega);have H6:=HA.out;rw[H8]at H6;have hd:=HD.out;rw[H8]at hd;have HQ:L.length<=k:=by
     rcases Nat.lt_or_ge k L.length with h|h
     . rw[List.drop_eq_getElem_cons h]at hd;cases hd
     . exact h
    have Hf:=z7 H6;clear H6 hd H8;go_wp2;go_ret2
    exact⟨He.out.trans (HB.out.mono He.out.size),.inr ⟨A,_,Hf.out,rfl,zd HO.out He.out.size⟩⟩
def tMr(p q r:Bool):Told:={ c:=[(50,[.a (.sym 0),.a (lS mi1)],one1 (lB p)),(50,[.a (.sym 0),.a (lS mi2)],one1 (lB q)),(50,[.a (.sym 0),.a (lS mi3)],one1 (lB r))] }
theorem rMr(p q r:Bool):symEv (tMr p q r) 81 [.a (.sym 0)]=some (one1 (lB (p || q || r))):=by cases p<;>cases q<;>cases r<;>kernel_rfl
theorem y9s(s:ByteArray)(w:World)(hG:GW w)(hs:s.size<=1000000):Calls prog 81 #[.string s] w fun e w'=>e=.returned (.bool (momB (bl s)))/\Below w.heap.size w w':=by
 letI:=sgL [.string s] ⟨zU _,trivial⟩
 have kl:∀(f:List UInt8),f.length<=1000->COk w (50,[.a (.sym 0),.a (lS f)],one1 (lB (zW (bl s) f))):=fun f hf=>
  ⟨[.string s,.string ⟨⟨f⟩⟩],_,fun _=>rfl,fun _=>rfl,fun w' _=>y1w s ⟨⟨f⟩⟩ w' hs (by show f.length<=_;omega)⟩
 exact y0W (vals:=[.string s]) hG (T:=tMr (zW (bl s) mi1) (zW (bl s) mi2) (zW (bl s) mi3)) ⟨trivial,trivial,trivial,trivial,⟨kl mi1 (by decide),kl mi2 (by decide),kl mi3 (by decide),trivial⟩,trivial,trivial⟩ rfl (rMr _ _ _) (fun _=>rfl)
theorem yEG(s:ByteArray)(w:World)(hG:GW w)(hs:s.size<=1000000):Calls prog 52 #[.string s] w fun e w'=>e=.returned (.int .i64 (momN (bl s):Nat))/\Below w.heap.size w w':=by
 have HL:Hid ((bl s).length=s.size):=zJ s;obtain⟨R,hR⟩:∃R,R=momN (bl s):=⟨_,rfl⟩;rw[<-hR];have HR:=z7 hR;have K1:=z7 (fun(x:ByteArray) (w':World) (h:Below w.heap.size w w') (hz:x.size<=1000000)=>y9s x w' (hG.bel h) hz);clear hR hG
 go_enter func52,ntmps52
 go_wp2
 go_loopw [3] (fun iv wr=>∃n:Nat,iv=.int .i64 (n:Int)/\7<=n/\n<=12/\Hid (∀j,7<=j->j<n->momA (bl s) j=false)/\Hid (Below w.heap.size w wr)) (fun iv _=>12-(intOf iv).toNat)
 case atStart=>exact⟨7,rfl,zA,by decide,z7 (fun j h1 h2=>by omega),z7 z8⟩
 case round=>
  obtain⟨n,rfl,h7,Hd,HN,HB⟩:=hrel;by_cases hn:n<=11
  . have hA:momA (bl s) n=(decide (n<=s.size)&&((bl s).head?==some 91)&&((bl s)[n-1]?==some 93)&&momB (((bl s).take (n-1)).drop 1)):=by rw[<-HL.out];rfl
    have H5:momA (bl s) n=true->R=n:=fun h=>by rw[HR.out];exact(y4X _ _ h7).1 h
    have H8:momA (bl s) n=false->∀j,7<=j->j<n+1->momA (bl s) j=false:=fun h j h1 h2=>by
     rcases Nat.lt_or_ge j n with h3|h3
     . exact HN.out j h1 h3
     . rw[show j=n by omega];exact h
    have i1:IntKind.i64.wrap ((n:Int)-1)=(n:Int)-1:=wi64 _ (by omega) (by omega);have i2:((n:Int)-1).toNat=n-1:=by omega
    have i3:(0:Int)<=(n:Int)-1:=by omega
    by_cases Ha:n<=s.size
    . obtain⟨x,hx⟩:=zM (bl s) 0 (by rw[HL.out];omega)
      obtain⟨y,hy⟩:=zM (bl s) (n-1) (by rw[HL.out];omega);have X:∀h,s[0]'h=x:=zS s 0 x hx;have Y:∀h,s[n-1]'h=y:=zS s (n-1) y hy;have i4:(n:Int)-1<(s.size:Int):=by omega
      have i5:(1:Int)<=(n:Int)-1:=by omega
      have i6:(n:Int)-1<=(s.size:Int):=by omega
      have hh:(bl s).head?=some x:=by rw[List.head?_eq_getElem?];exact hx
      rw[decide_eq_true Ha,hy,hh,Bool.true_and]at hA;have Hc:=x.toNat_lt;have Hb:=y.toNat_lt;clear hx hy hh;by_cases H7:x=91
      . subst H7
        rw[show(some (91:UInt8)==some 91)=true from rfl,Bool.true_and]at hA;by_cases H6:y=93
        . subst H6
          rw[show(some (93:UInt8)==some 93)=true from rfl,Bool.true_and]at hA;have e:bl (s.extract 1 (n-1))=((bl s).take (n-1)).drop 1:=by rw[y1N,List.drop_take]
          have k1:=fun w' h=>K1.out (s.extract 1 (n-1)) w' h (by rw[zG];omega)
          rw[e,<-hA]at k1;have K2:=z7 k1;cases hm:momA (bl s) n with
          | true=>
           have hr:=H5 hm;rw[hm]at k1;have K3:=z7 k1;subst hr;clear hA H5 H8 k1 e hm K2
           go_wp2_with (go_at_call 81;refine(K3.out _ HB.out).mono ?_;rintro e w1 ⟨rfl,H9⟩)
           go_ret
           exact⟨rfl,HB.out.trans (H9.mono HB.out.size)⟩
          | false=>
           have HF:=z7 (H8 hm);rw[hm]at k1;have K3:=z7 k1;clear hA H5 H8 k1 e hm K2
           go_wp2_with (go_at_call 81;refine(K3.out _ HB.out).mono ?_;rintro e w1 ⟨rfl,H9⟩)
           go_roundw
           case rel=>exact⟨n+1,by first|omega|go_num,by omega,by omega,HF,z7 (HB.out.trans (H9.mono HB.out.size))⟩
           case measure=>simp[intOf];omega
        . rw[show(some y==some (93:UInt8))=false by rw[Y2];exact fun h=>H6 (zF h),Bool.false_and]at hA
          have HF:=z7 (H8 hA);have g2:((y.toNat:Int)==93)=false:=by rw[Y2];exact y0c y 93 (by decide) H6
          clear hA H5 H8 H6
          go_wp2_with fail
          go_roundw
          case rel=>exact⟨n+1,by first|omega|go_num,by omega,by omega,HF,HB⟩
          case measure=>simp[intOf];omega
      . rw[show(some x==some (91:UInt8))=false by rw[Y2];exact fun h=>H7 (zF h),Bool.false_and,Bool.false_and]at hA
        have HF:=z7 (H8 hA);have g1:((x.toNat:Int)==91)=false:=by rw[Y2];exact y0c x 91 (by decide) H7
        clear hA H5 H8 H7
        go_wp2_with fail
        go_roundw
        case rel=>exact⟨n+1,by first|omega|go_num,by omega,by omega,HF,HB⟩
        case measure=>simp[intOf];omega
    . rw[decide_eq_false Ha]at hA
      have HF:=z7 (H8 (by rw[hA];rfl));clear hA H5 H8
      go_wp2_with fail
      go_roundw
      case rel=>exact⟨n+1,by first|omega|go_num,by omega,by omega,HF,HB⟩
      case measure=>simp[intOf];omega
  . have hz:R=0:=by
     rw[HR.out];rcases yFB (bl s)with h|h|h|h
     . exact h
     . have:=HN.out 7 (by omega) (by omega);rw[(y4X (bl s) 7 (by omega)).2 h]at this;cases this
     . have:=HN.out 10 (by omega) (by omega);rw[(y4X (bl s) 10 (by omega)).2 h]at this;cases this
     . have:=HN.out 11 (by omega) (by omega);rw[(y4X (bl s) 11 (by omega)).2 h]at this;cases this
    subst hz;go_wp2;go_ret
    exact⟨rfl,HB.out⟩
abbrev noB(c:UInt8):Bool:=!(c==93)
abbrev ltB(c:UInt8):Bool:=decide (97<=c.toNat)&&decide (c.toNat<=122)
theorem yGb(l:List UInt8)(i:Nat)(h:∀j c,j<i->l[j]?=some c->c≠93):(l.take i).all noB=true:=by
 rw[List.all_eq_true];intro c hc;obtain⟨j,hj⟩:=List.mem_iff_getElem?.1 hc;have H5:j<i:=by
  rcases Nat.lt_or_ge j i with h|h
  . exact h
  . rw[List.getElem?_eq_none (by rw[List.length_take];omega)]at hj;cases hj
 rw[List.getElem?_take_of_lt H5]at hj;simpa[noB]using h j c H5 hj
theorem y8P(s:ByteArray)(w:World)(hG:GW w)(hs:s.size<=1000):LP 35 s w (okO (lrcS () s)) (psO (lrcS () s)):=by
 unfold LP;have HL:Hid ((bl s).length=s.size):=zJ s;by_cases h0:s.size=0
 . have e0:lrcS () s=some ((),[]):=by unfold lrcS;rw[if_pos h0]
   rw[e0];show Calls _ _ _ _ fun e w'=>(∃x,e=.returned (.tuple #[x,.bool true])/\(true=true->y1q w' x 0 []))/\Below w.heap.size w w'
   have hE:s.toList.isEmpty=true:=by rw[ByteArray.toList_eq,List.isEmpty_iff];exact List.eq_nil_of_length_eq_zero (by rw[show s.data.toList.length=s.size from zJ s];exact h0)
   clear h0
   go_enter func35,ntmps35
   go_wp2_with fail
   go_ret2
   exact⟨⟨_,rfl,fun _=>.inl ⟨rfl,rfl,rfl⟩⟩,z8⟩
 . have hE:s.toList.isEmpty=false:=by rw[<-Bool.not_eq_true,ByteArray.toList_eq,List.isEmpty_iff];exact fun h=>h0 (by rw[<-show s.data.toList.length=s.size from zJ s,h];rfl)
   obtain⟨V,hV⟩:∃V,V=lrcS () s:=⟨_,rfl⟩;rw[<-hV];unfold lrcS at hV;rw[if_neg h0]at hV;simp only at hV;obtain⟨VB,kA⟩:∃x,x=okO V:=⟨_,rfl⟩;obtain⟨VL,kz⟩:∃x,x=psO V:=⟨_,rfl⟩;rw[<-kA,<-kz];have kD:=z7 kA;have kC:=z7 kz;clear kA kz;have HV:=z7 hV;have HG:=z7 hG;have H0:1<=s.size:=by omega
   clear hV h0 hG
   go_enter func35,ntmps35
   go_wp2_with fail
   go_loopw [4,5] (fun v iv wr=>∃(a k:Nat) (A:List Pc),iv=.int .i64 (a:Int)/\a<=s.size/\s.size<=k+a/\Hid (zm s.size s 0=(A++(zm k s a).1,(zm k s a).2))/\Hid (wr.ownsRow w.heap.size 99 3 v A.length (pcC A))/\Hid (Below w.heap.size w wr)/\A.length<=a/\Hid (a=0->A = [])) (fun _ iv _=>s.size-(intOf iv).toNat)
   case atStart=>exact⟨0,s.size,[],rfl,zD,zA,z7 (by simp),z7 (World.ownsRow_nil _ _ _ _),z7 z8,zD,z7 (fun _=>rfl)⟩
   case round=>
    obtain⟨a,k,A,rfl,ha,hk,HT,HO,HB,Kq,Kj⟩:=hrel;obtain⟨a1,c1,rfl⟩:=zN HO.out;have Hv:w.heap.size<=wr.heap.size:=HB.out.size;obtain⟨Q,hQ⟩:∃Q,Q=s.extract a s.size:=⟨_,rfl⟩;have Hl:bl Q=(bl s).drop a:=by rw[hQ,y1o]
    have kP:Q.size=s.size-a:=by rw[hQ,zG];omega
    obtain⟨n,hn⟩:∃n,n=momN (bl Q):=⟨_,rfl⟩;have kK:n<=Q.size:=by rw[hn,<-zJ];exact yA3 _
    have kt:∀w',Below w.heap.size w w'->Calls prog 52 #[.string (s.extract a s.size)] w' fun e w''=>e=.returned (.int .i64 n)/\Below w'.heap.size w' w'':=fun w' h=>by
     have:=yEG Q w' (HG.out.bel h) (by omega);rw[<-hn,hQ]at this;exact this
    have KT:=z7 kt;have z0:(0:Int)<=(a:Int):=by omega
    have z1:(a:Int)<=(s.size:Int):=by omega
    by_cases hz:n=0
    . subst hz
      have Hc:=HT.out;rw[y4u s a k (by rw[<-Hl,<-hn]),List.append_nil]at Hc;have hv:=HV.out;rw[Hc]at hv;simp only at hv;by_cases Hz:a=0
      . subst Hz
        have Kd:A = []:=Kj.out rfl;subst Kd;rw[if_pos rfl]at hv;have kQ:=z7 hv;rw[show s.extract 0 s.size=s by apply ByteArray.ext;apply Array.ext';rw[y0E];rfl]at kt;have KT:=z7 kt;clear hv Hc kt hQ Hl hn
        go_wp2_with (go_at_call 52;refine(KT.out _ HB.out).mono ?_;rintro e w2 ⟨rfl,H9⟩)
        have H7:=z7 (HB.out.trans (H9.mono Hv));have Kg:Hid (w2.ownsRow w.heap.size 99 3 (.slice a1 0 c1) 0 (pcC [])):=z7 (zK HO.out H9);clear H9
        go_loopw [7] (fun iv wx=>∃n:Nat,iv=.int .i64 (n:Int)/\1<=n/\n<=s.size/\Hid ((((bl s).drop 1).take (n-1)).all ltB=true)/\wx=w2) (fun iv _=>s.size-(intOf iv).toNat)
        case atStart=>exact⟨1,rfl,zA,H0,z7 (by simp),rfl⟩
        case round=>
         obtain⟨n,rfl,Kn,kW,kH,rfl⟩:=hrel;obtain⟨x,hx⟩:=zM (bl s) 0 (by rw[HL.out];omega);have X:∀h,s[0]'h=x:=zS s 0 x hx;have Kk:=x.toNat_lt;have hh:(bl s).head?=some x:=by rw[List.head?_eq_getElem?];exact hx
         have Hn:(n<s.size/\∃y,(bl s)[n]?=some y/\ltB y=true)\/(n=s.size\/(n<s.size/\∃y,(bl s)[n]?=some y/\ltB y=false)):=by
          by_cases Hi:n<s.size
          . obtain⟨y,hy⟩:=zM (bl s) n (by rw[HL.out];exact Hi)
            cases hc:ltB y with
            | true=>exact .inl ⟨Hi,y,hy,hc⟩
            | false=>exact .inr (.inr ⟨Hi,y,hy,hc⟩)
          . exact .inr (.inl (by omega))
         rcases Hn with⟨Hi,y,hy,hc⟩|Hn
         . have Y:∀h,s[n]'h=y:=zS s n y hy
           have k9:=y.toNat_lt;have e:(((bl s).drop 1).take (n+1-1)).all ltB=true:=by
            have:=(zr ltB ((bl s).drop 1) (n-1) y (by rw[List.getElem?_drop,show 1+(n-1)=n by omega];exact hy) kH.out).1 hc
            rwa [show n-1+1=n+1-1 by omega]at this
           have EE:=z7 e;have g1:(97:Int)<=(y.toNat:Int):=by simp[ltB]at hc;omega
           have g2:(y.toNat:Int)<=122:=by simp[ltB]at hc;omega
           clear hx hy hh hc e
           go_wp2_with fail
           go_roundw
           case rel=>exact⟨n+1,by first|omega|go_num,by omega,by omega,EE,trivial⟩
           case measure=>simp[intOf];omega
         . have He:noE (bl s)=n:=by
            unfold noE;have:=y1k ltB ((bl s).drop 1) (n-1) kH.out (by rw[List.length_drop,HL.out];omega) (fun c hc=>by
             rw[List.getElem?_drop,show 1+(n-1)=n by omega]at hc;rcases Hn with h|⟨_,y,hy,hb⟩
             . have:=(List.getElem?_eq_some_iff.1 hc).1;rw[HL.out]at this;omega
             . rw[hy]at hc;cases hc;exact hb)
            show 1+(((bl s).drop 1).takeWhile ltB).length=n;omega
           have H8:noteOk (bl s)=((some x==some 91)&&(((bl s).takeWhile noB).length+1==(bl s).length)&&decide (1<n)&&((bl s)[n]?==some 58)):=by rw[<-He,<-hh];rfl
           have H5:noteOk (bl s)=false->VB=false:=fun h=>by have:=kQ.out;rw[h,if_neg (by decide)]at this;rw[kD.out,this];rfl
           by_cases Ha:x=91
           . subst Ha
             by_cases Km:n<2
             . have Hb:=H5 (by rw[H8,decide_eq_false (by omega)];simp)
               subst Hb;have kY:n=1:=by omega
               subst kY;rcases Hn with h|⟨Hi,y,hy,hb⟩
               . have h':(s.size:Int)=1:=by omega
                 have h2:¬((1:Int)<(s.size:Int)):=by omega
                 clear H8 H5 hx hh He h
                 go_wp2_with fail
                 go_ret2
                 first|exact⟨⟨_,rfl,fun h=>by cases h⟩,H7.out⟩|exact⟨⟨_,rfl⟩,H7.out⟩
               . have Y:∀h,s[1]'h=y:=zS s 1 y hy
                 have k9:=y.toNat_lt;have hq:(y.toNat:Int)<97\/(97:Int)<=(y.toNat:Int)/\(122:Int)<(y.toNat:Int):=by simp[ltB]at hb;omega
                 clear H8 H5 hx hh He hy hb;rcases hq with q|⟨q,q'⟩
                 all_goals
                  go_wp2_with fail
                  go_ret2
                  first|exact⟨⟨_,rfl,fun h=>by cases h⟩,H7.out⟩|exact⟨⟨_,rfl⟩,H7.out⟩
             . rcases Hn with h|⟨Hi,y,hy,hb⟩
               . have Hb:=H5 (by rw[H8,show(bl s)[n]?=none by rw[List.getElem?_eq_none_iff,HL.out];omega];simp)
                 have h2:¬((n:Int)<(s.size:Int)):=by omega
                 have h3:¬((n:Int)<2):=by omega
                 have h4:(s.size:Int)<=(n:Int):=by omega
                 subst Hb;clear H8 H5 hx hh He h
                 go_wp2_with fail
                 go_ret2
                 first|exact⟨⟨_,rfl,fun h=>by cases h⟩,H7.out⟩|exact⟨⟨_,rfl⟩,H7.out⟩
               . have Y:∀h,s[n]'h=y:=zS s n y hy
                 have k9:=y.toNat_lt;have h3:¬((n:Int)<2):=by omega
                 by_cases Hd:y=58
                 . subst Hd
                   have kU:=z7 H5;have kF:=z7 H8;have Kh:=z7 He;have HY:=z7 hy;have kI:∀j c,j<n->j<s.size-1->(bl s)[j]?=some c->c≠93:=by
                    intro j c h1 _ h2;rintro rfl;rcases Nat.eq_zero_or_pos j with rfl|h0
                    . rw[hx]at h2;exact absurd (zF h2) (by decide)
                    . have:=List.all_eq_true.1 kH.out 93 (List.mem_of_getElem? (i:=j-1) (by rw[List.getElem?_take_of_lt (by omega),List.getElem?_drop,show 1+(j-1)=j by omega];exact h2))
                      exact absurd this (by decide)
                   have Kf:=z7 kI;clear kI H5 H8 He hy hb hx hh
                   go_wp2_with fail
                   go_loopw [8] (fun iv wz=>∃i:Nat,iv=.int .i64 (i:Int)/\n<=i/\i<=s.size/\Hid (∀j c,j<i->j<s.size-1->(bl s)[j]?=some c->c≠93)/\Hid (Below w.heap.size w wz)/\Hid (wz.ownsRow w.heap.size 99 3 (.slice a1 0 c1) 0 (pcC []))) (fun iv _=>s.size-(intOf iv).toNat)
                   case atStart=>exact⟨n,rfl,zA,kW,Kf,H7,Kg⟩
                   case round=>
                    obtain⟨i,rfl,Kl,Kp,HI,Hm,kT⟩:=hrel;have j4:IntKind.i64.wrap ((s.size:Int)-1)=(s.size:Int)-1:=wi64 _ (by omega) (by omega);have j5:((s.size:Int)-1).toNat=s.size-1:=by omega
                    by_cases ky:i<s.size
                    . obtain⟨z,hz⟩:=zM (bl s) i (by rw[HL.out];exact ky)
                      have Z:∀h,s[i]'h=z:=zS s i z hz;have kV:=z.toNat_lt;by_cases Hf:z=93/\i<s.size-1
                      . obtain⟨rfl,K9⟩:=Hf
                        have Hb:=kU.out (by
                         rw[kF.out,show(((bl s).takeWhile noB).length+1==(bl s).length)=false by
                          rw[y1k noB (bl s) i (yGb _ _ fun j c h1 h2=>HI.out j c h1 (by omega) h2) (by rw[HL.out];omega) (fun c hc=>by rw[hz]at hc;cases hc;rfl),HL.out,Y2];omega]
                         simp)
                        subst Hb;have g6:(i:Int)<(s.size:Int)-1:=by omega
                        clear hz K9
                        go_wp2_with fail
                        go_ret2
                        first|exact⟨⟨_,rfl,fun h=>by cases h⟩,Hm.out⟩|exact⟨⟨_,rfl⟩,Hm.out⟩
                      . have g5:((z.toNat:Int)==93)=false\/(z=93/\¬(i:Int)<(s.size:Int)-1):=by
                         by_cases h9:z=93
                         . exact .inr ⟨h9,by have:¬i<s.size-1:=fun h=>Hf ⟨h9,h⟩;omega⟩
                         . exact .inl (by rw[Y2];exact y0c z 93 (by decide) h9)
                        have Ki:Hid (∀j c,j<i+1->j<s.size-1->(bl s)[j]?=some c->c≠93):=z7 (by
                         intro j c h1 h2 h3;rcases Nat.lt_or_ge j i with h4|h4
                         . exact HI.out j c h4 h2 h3
                         . have hj:j=i:=by omega
                           subst hj;rw[hz]at h3;cases h3;rintro rfl;exact Hf ⟨rfl,h2⟩)
                        clear hz Hf;rcases g5 with g|⟨rfl,g⟩
                        all_goals
                         go_wp2_with fail
                         go_roundw
                         case rel=>exact⟨i+1,by first|omega|go_num,by omega,by omega,Ki,Hm,kT⟩
                         case measure=>simp[intOf];omega
                    . have kZ:i=s.size:=by omega
                      subst kZ;obtain⟨z,hz⟩:=zM (bl s) (s.size-1) (by rw[HL.out];omega);have Z:∀h,s[s.size-1]'h=z:=zS s (s.size-1) z hz;have kV:=z.toNat_lt;have Hk:=yGb (bl s) (s.size-1) (fun j c h1 h2=>HI.out j c (by omega) h1 h2);have j6:(0:Int)<=(s.size:Int)-1:=by omega
                      have j7:(s.size:Int)-1<(s.size:Int):=by omega
                      by_cases HQ:z=93
                      . subst HQ
                        have kX:n≠s.size-1:=by
                         intro h;have:=HY.out;rw[h,hz]at this;exact absurd (zF this) (by decide)
                        have kJ:noteOk (bl s)=true:=by
                         rw[kF.out,y1k noB (bl s) (s.size-1) Hk (by rw[HL.out];omega) (fun c hc=>by rw[hz]at hc;cases hc;rfl),HY.out,HL.out,decide_eq_true (show 1<n by omega),show s.size-1+1=s.size by omega];simp
                        have kx:V=some ((),notP s):=by rw[kQ.out,if_pos kJ]
                        have Hy:VB=true:=by rw[kD.out,kx];rfl
                        have Hh:VL = [] ++ [mkP (s.extract 0 (n+1))] ++ [txP (s.extract 1 n) (s.extract (n+1) (s.size-1))] ++ [mkP ⟨#[93]⟩]:=by rw[kC.out,kx];show notP s=_;unfold notP;rw[Kh.out];rfl
                        have Ho:=z7 Hh;subst Hy;have i0:(0:Int)<=(n:Int)+1:=by omega
                        have i1:(n:Int)+1<=(s.size:Int):=by omega
                        have i2:((n:Int)+1).toNat=n+1:=by omega
                        have i3:IntKind.i64.wrap ((n:Int)+1)=(n:Int)+1:=wi64 _ (by omega) (by omega);have i4:(1:Int)<=(n:Int):=by omega
                        have i5:(n:Int)<=(s.size:Int):=by omega
                        have i6:(n:Int)+1<=(s.size:Int)-1:=by omega
                        have i7:(s.size:Int)-1<=(s.size:Int):=by omega
                        have KP1:=z7 (zb (.slice a1 0 c1) [] w.heap.size (s.extract 0 (n+1)) _ kT.out (by decide) Hm.out.size);clear Hh kx kJ kX Hk hz
                        go_upto_region 26 with(go_at_call 27;refine(KP1.out).mono ?_;rintro e w5 ⟨⟨v5,rfl,Hq⟩,Kb⟩;have Hj:=Hm.out.trans Kb;(have KW:=z7 (fun(m t:ByteArray) (w':World) (h:Below w5.heap.size w5 w')=>y09 v5 _ w.heap.size m t w' (zK Hq h) (by show 1<_;decide) (zE Hj.size h.size))))
                        go_region_with (go_at_call 29;go_loud  (refine(KW.out _ _ _ (by first|exact(z8).drew|exact z8)).mono ?_);go_loud  (rintro e w6 ⟨⟨v6,rfl,Hp⟩,kM⟩);go_loud  (have Ht:Below w.heap.size w w6:=by first|exact Hj.trans kM|exact Hj.drew.trans kM))
                        all_goals
                         go_wp2_with (go_at_call 27;(refine(zb _ _ _ _ _ Hp (by show 2<_;decide) Ht.size).mono ?_);rintro e w7 ⟨⟨v7,rfl,Hg⟩,Ka⟩)
                         go_ret2
                         exact⟨⟨_,rfl,by first|(intro _;rw[Ho.out];exact zZ Hg)|(rw[Ho.out];exact zZ Hg)⟩,Ht.trans Ka⟩
                      . have Hb:=kU.out (by
                         rw[kF.out,show(((bl s).takeWhile noB).length+1==(bl s).length)=false by
                          have:((bl s).takeWhile noB)=bl s:=y4s _ _ (by
                           have:=yGb (bl s) s.size (fun j c h1 h2=>by
                            rcases Nat.lt_or_ge j (s.size-1)with h3|h3
                            . exact HI.out j c h1 h3 h2
                            . rw[show j=s.size-1 by omega,hz]at h2;cases h2;exact HQ)
                           rwa [List.take_of_length_le (by rw[HL.out];exact zA)]at this)
                          rw[this,Y2];omega]
                         simp)
                        subst Hb;have gz0:((z.toNat:Int)==93)=false:=by rw[Y2];exact y0c z 93 (by decide) HQ
                        have gz:((z.toNat:Int) != 93)=true:=by rw[bne,gz0];rfl
                        clear hz HQ Hk
                        go_wp2_with fail
                        go_ret2
                        first|exact⟨⟨_,rfl,fun h=>by cases h⟩,Hm.out⟩|exact⟨⟨_,rfl⟩,Hm.out⟩
                 . have Hb:=H5 (by rw[H8,hy,show(some y==some (58:UInt8))=false by rw[Y2];exact fun h=>Hd (zF h)];simp)
                   have gy0:((y.toNat:Int)==58)=false:=by rw[Y2];exact y0c y 58 (by decide) Hd
                   have gy:((y.toNat:Int) != 58)=true:=by rw[bne,gy0];rfl
                   subst Hb;have hq:(y.toNat:Int)<97\/(97:Int)<=(y.toNat:Int)/\(122:Int)<(y.toNat:Int):=by simp[ltB]at hb;omega
                   clear H8 H5 hx hh He hy hb Hd;rcases hq with q|⟨q,q'⟩
                   all_goals
                    go_wp2_with fail
                    go_ret2
                    first|exact⟨⟨_,rfl,fun h=>by cases h⟩,H7.out⟩|exact⟨⟨_,rfl⟩,H7.out⟩
           . have Hb:=H5 (by rw[H8,show(some x==some (91:UInt8))=false by rw[Y2];exact fun h=>Ha (zF h)];simp)
             have gx0:((x.toNat:Int)==91)=false:=by rw[Y2];exact y0c x 91 (by decide) Ha
             have gx:((x.toNat:Int) != 91)=true:=by rw[bne,gx0];rfl
             subst Hb;rcases Hn with h|⟨Hi,y,hy,hb⟩
             . have h2:¬((n:Int)<(s.size:Int)):=by omega
               clear H8 H5 hx hh He h Ha
               go_wp2_with fail
               go_ret2
               first|exact⟨⟨_,rfl,fun h=>by cases h⟩,H7.out⟩|exact⟨⟨_,rfl⟩,H7.out⟩
             . have Y:∀h,s[n]'h=y:=zS s n y hy
               have k9:=y.toNat_lt;have hq:(y.toNat:Int)<97\/(97:Int)<=(y.toNat:Int)/\(122:Int)<(y.toNat:Int):=by simp[ltB]at hb;omega
               clear H8 H5 hx hh He hy hb Ha;rcases hq with q|⟨q,q'⟩
               all_goals
                go_wp2_with fail
                go_ret2
                first|exact⟨⟨_,rfl,fun h=>by cases h⟩,H7.out⟩|exact⟨⟨_,rfl⟩,H7.out⟩
      . rw[if_neg Hz]at hv
        have Hy:VB=true:=by rw[kD.out,hv];rfl
        have y1:(0:Int)<(a:Int):=by omega
        by_cases kO:a=s.size
        . have Hh:VL=A:=by rw[kC.out,hv];show A++_=A;rw[if_neg (by omega),List.append_nil]
          have Ho:=z7 Hh;have y2:¬((a:Int)<(s.size:Int)):=by omega
          subst Hy;clear Hh hv Hc hn Hz kO hQ Hl kt
          go_wp2_with (go_at_call 52;refine(KT.out _ HB.out).mono ?_;rintro e w2 ⟨rfl,H9⟩)
          go_ret2
          exact⟨⟨_,rfl,by rw[Ho.out];exact zZ (zK HO.out H9)⟩,HB.out.trans (H9.mono Hv)⟩
        . have Hh:VL=A ++ [txP teN (s.extract a s.size)]:=by
           rw[kC.out,hv];show A++_=_;rw[if_pos (by omega)]
          have Ho:=z7 Hh;have y2:(a:Int)<(s.size:Int):=by omega
          have y3:A.length<1000000:=by omega
          have kw:=fun w' h1 h2=>y09 (.slice a1 A.length c1) A w.heap.size teN (s.extract a s.size) w' h1 y3 h2
          have KWR:=z7 kw;subst Hy;clear Hh hv Hc hn Hz kO hQ Hl kt kw
          go_wp2_with (first
           | (go_at_call 52;refine(KT.out _ HB.out).mono ?_;rintro e w2 ⟨rfl,H9⟩;have H6:=HB.out.trans (H9.mono Hv))
           | (go_at_call 29;refine(KWR.out _ (zK HO.out H9) H6.size).mono ?_;rintro e w3 ⟨⟨v3,rfl,Hs⟩,Hw⟩))
          go_ret2
          exact⟨⟨_,rfl,by rw[Ho.out];exact zZ Hs⟩,H6.trans Hw⟩
    . have Ko:0<n:=by omega
      obtain⟨k,rfl⟩:∃k',k=k'+1:=⟨k-1,by omega⟩;have Hc:=HT.out;rw[zm,if_neg (by rw[<-Hl,<-hn];exact hz)]at Hc;simp only at Hc;rw[<-Hl,<-hn]at Hc;have Ke:Hid (zm s.size s 0=((A ++ [mkP (s.extract a (a+n))])++(zm k s (a+n)).1,(zm k s (a+n)).2)):=z7 (by rw[Hc,List.append_assoc];rfl);have y3:A.length<1000000:=by omega
      have kp:=fun w' h1 h2=>zb (.slice a1 A.length c1) A w.heap.size (s.extract a (a+n)) w' h1 y3 h2
      have KPT:=z7 kp;have j0:(0:Int)<(n:Int):=by omega
      have j1:(a:Int)<=(a:Int)+(n:Int):=by omega
      have j2:(a:Int)+(n:Int)<=(s.size:Int):=by omega
      have j3:((a:Int)+(n:Int)).toNat=a+n:=by omega
      have j4:IntKind.i64.wrap ((a:Int)+(n:Int))=(a:Int)+(n:Int):=wi64 _ (by omega) (by omega);have kR:Hid (Q.size=s.size-a/\n<=Q.size):=z7 ⟨kP,kK⟩;clear Hc hn hz hQ Hl kt kp kP kK
      go_wp2_with (first
       | (go_at_call 27;refine(KPT.out _ (zK (zK HO.out H9) Hw) Hu.size).mono ?_;rintro e w4 ⟨⟨v4,rfl,Hr⟩,Kc⟩)
       | (go_at_call 52;refine(KT.out _ H6).mono ?_;rintro e w3 ⟨rfl,Hw⟩;have Hu:=H6.trans (Hw.mono H6.size))
       | (go_at_call 52;refine(KT.out _ HB.out).mono ?_;rintro e w2 ⟨rfl,H9⟩;have H6:=HB.out.trans (H9.mono Hv)))
      go_roundw
      case rel=>exact⟨a+n,k,A ++ [mkP (s.extract a (a+n))],by first|omega|go_num,by have:=kR.out;omega,by omega,Ke,z7 Hr,z7 (Hu.trans Kc),by rw[zH];simp;omega,z7 (fun h=>by omega)⟩
      case measure=>have:=kR.out;simp[intOf];omega
theorem y5N(N:ByteArray)(h:N.size=0):mkL N = []:=by unfold mkL;rw[if_neg (by omega)]
theorem y2n(N:ByteArray)(h:¬N.size=0):mkL N = [mkP N]:=by unfold mkL;rw[if_pos (by omega)]
theorem y2d(N:ByteArray)(h:N.size=0):N.toList.isEmpty=true/\(N.toList == [])=true/\(N.toList != [])=false:=by
 have:N.toList = []:=by rw[ByteArray.toList_eq];exact List.eq_nil_of_length_eq_zero (by rw[show N.data.toList.length=N.size from zJ N];exact h)
 rw[this];exact⟨rfl,rfl,rfl⟩
theorem y0n(N:ByteArray)(h:¬N.size=0):N.toList.isEmpty=false/\(N.toList == [])=false/\(N.toList != [])=true:=by
 cases hq:N.toList with
 | nil=>rw[ByteArray.toList_eq]at hq;exact absurd (show N.size=0 by rw[<-zJ N];show N.data.toList.length=0;rw[hq];rfl) h
 | cons a l=>exact⟨rfl,rfl,rfl⟩
theorem y9m(b:ByteArray)(w:World)(hG:GW w)(hs:b.size<=1000):Calls prog 18 #[.string b] w (RefR (lrcM b) w):=by
 have HL:Hid ((bl b).length=b.size):=zJ b;obtain⟨L,hL⟩:∃L,L=lnF (bl b) 0:=⟨_,rfl⟩;have k1:=y2K b w (by omega);have Hy:=y1a b;obtain⟨R,hR⟩:∃R,R=lrcM b:=⟨_,rfl⟩;rw[<-hR];rw[<-hL]at k1 Hy;unfold lrcM at hR;have K1:=z7 k1;have K2:=z7 (fun(s:ByteArray) (w':World) (h:Below w.heap.size w w') (hz:s.size<=1000)=>(by have:=y8P s w' (hG.bel h) hz;unfold LP at this;exact this:Calls _ _ _ _ _));have Hz:=z7 hR;have HQ:=z7 hL;clear k1 hR hL hG
 go_enter func18,ntmps18
 go_wp2_with (go_at_call 23;(with_reducible refine(K1.out).mono ?_);rintro e w1 ⟨v,rfl,Ha,Hr⟩;obtain⟨a1,c1,rfl⟩:=zN Ha)
 have HR:=z7 (y01 Ha);have Hj:=z7 Hr;clear Ha Hr
 go_loopw [4,6] (fun v iv wr=>∃(k a:Nat) (A:List Pc),iv=.int .i64 (k:Int)/\a<=b.size/\Hid (L.drop k=lnF (bl b) a)/\Hid (R=outP (walkS lrcS b () A (lnF (bl b) a)))/\Hid (wr.ownsRow w1.heap.size 99 3 v A.length (pcC A))/\Hid (Below w1.heap.size w1 wr)/\A.length<=3*a) (fun _ iv _=>L.length-(intOf iv).toNat)
 case atStart=>exact⟨0,0,[],rfl,zD,HQ,Hz,z7 (World.ownsRow_nil _ _ _ _),z7 z8,zD⟩
 case round=>
  obtain⟨k,a,A,rfl,Hw,HD,HA,HO,HB,kC⟩:=hrel;by_cases Hp:a<b.size
  . obtain⟨E,hE⟩:∃E,E=nxE (bl b) a:=⟨_,rfl⟩
    obtain⟨D,hD⟩:∃D,D=nxB (bl b) E:=⟨_,rfl⟩;have H6:=zq (bl b) a (by rw[HL.out];exact Hp);have e1:a<=E:=by rw[hE];exact y20 _ _
    have e2:E<=b.size:=by rw[hE,<-HL.out];exact y2g _ _ (by rw[HL.out];exact Hw)
    have e3:E<=D:=by rw[hD];exact y3C _ _
    have e4:D<=b.size:=by rw[hD,<-HL.out];exact y41 _ _ (by rw[HL.out];exact e2)
    have e5:a<D:=by rw[hD,hE];exact y5J _ _ (by rw[HL.out];exact Hp)
    rw[<-hE,<-hD]at H6;obtain⟨hp,hd,k9⟩:=y3L (HD.out.trans H6);have H5:=HA.out;rw[H6]at H5;unfold walkS at H5;obtain⟨g,o,c',e,_⟩:=y0X HR.out _ _ (y0J b L k _ hp 0 _ rfl);simp only[Value.slice.injEq]at e;obtain⟨rfl,_,rfl⟩:=e;have hw:∀w' (h:Below w1.heap.size w1 w'),_:=fun w' h=>y1V (HR.out.keep h) k (a,E,D) hp
    obtain⟨S,hS⟩:∃S,S=b.extract a E:=⟨_,rfl⟩;have kz:S.size=E-a:=by rw[hS,zG];omega
    have Hg:=y7U b E D e3 e4;obtain⟨N,hN⟩:∃N,N=b.extract E D:=⟨_,rfl⟩;simp only at hw;rw[<-hN]at Hg;rw[<-hS]at H5;simp only[<-hS,<-hN]at hw;have Hq:(psO (lrcS () S)).length<=2*S.size:=by
     cases hq:lrcS () S with
     | none=>exact zD
     | some p=>exact yA5 () S p.1 p.2 hq
    have Hb:=fun w' h=>K2.out S w' h (by omega)
    rw[<-hN]at H5;have HW:=z7 hw;have Hi:=z7 (Hj.out.trans (HB.out.mono Hj.out.size));obtain⟨p0,p1,p2⟩:=HW.out wr HB.out;have z1:=HB.out.size;cases hc:lrcS () S with
    | none=>
     rw[hc]at Hb;rw[hc]at H5;simp only at H5;have K3:=z7 Hb;have Hd:=z7 H5;clear Hb H5 hw hc hp hd H6 Hg hN hS hE hD
     go_upto_region 8 with(go_at_call 35;refine(K3.out _ Hi.out).mono ?_;rintro e w2 ⟨⟨x,rfl,hx⟩,H9⟩;obtain⟨r0,r1,r2⟩:=HW.out w2 (HB.out.trans (H9.mono HB.out.size)))
     go_region
     go_wp2
     go_ret2
     exact⟨(Hi.out.trans (H9.mono Hi.out.size)).drew,.inl ⟨a,Hd.out,rfl⟩⟩
    | some pp=>
     obtain⟨⟨⟩,Q⟩:=pp;rw[hc]at Hb Hq;rw[hc]at H5;change Q.length<=_ at Hq;simp only at H5;rw[<-Hg]at H5;have K3:=z7 Hb;have Hs:=z7 hd;have Ho:A.length+Q.length<70368744177664:=by omega
     have Hn:(A.length+Q.length)*40<=140737488355328:=by omega
     have Ht:(A++Q).length<1000000:=by rw[zH];omega
     obtain⟨va,vc,rfl⟩:=zN HO.out;have kA:N.size=D-E:=by rw[hN,zG];omega
     by_cases He:N.size=0
     . obtain⟨n1,n2,n3⟩:=y2d N He
       rw[y5N N He,List.append_nil]at H5;have Hd:=z7 H5;clear Hb H5 hw hc hp hd H6 Hg hN hS hE hD He
       go_wp2_with (first
        | (go_at_call 35;refine(K3.out _ Hi.out).mono ?_;rintro e w2 ⟨⟨x,rfl,hx⟩,H9⟩;have Hk:=hx (by trivial);have Hl:=zK HO.out H9;have Hh:=HB.out.trans (H9.mono HB.out.size))
        | (at_builtin;refine y0C rfl _ _ 29 99 rfl underlying29 Y3 3 40 infoPc rfl (by decide) w2 w1.heap.size (.slice va A.length vc) A.length (pcC A) rfl Hl x Q.length (pcC Q) rfl Hk (y0N _) (y5D _) Ho Hn Hh.size ?_;intro v3 w3 H8 Hm Hu;have H7:=Hh.trans Hm;obtain⟨r0,r1,r2⟩:=HW.out w3 H7))
       go_roundw
       case rel=>exact⟨k+1,D,A++Q,by first|omega|go_num,e4,Hs,Hd,z7 (by rw[zo,zH];exact H8),z7 H7,by rw[zH];omega⟩
       case measure=>simp[intOf];omega
     . obtain⟨n1,n2,n3⟩:=y0n N He
       rw[y2n N He]at H5;have Hd:=z7 H5;clear Hb H5 hw hc hp hd H6 Hg hN hS hE hD He
       go_wp2_with (first
        | (go_at_call 35;refine(K3.out _ Hi.out).mono ?_;rintro e w2 ⟨⟨x,rfl,hx⟩,H9⟩;have Hk:=hx (by trivial);have Hl:=zK HO.out H9;have Hh:=HB.out.trans (H9.mono HB.out.size))
        | (at_builtin;refine y0C rfl _ _ 29 99 rfl underlying29 Y3 3 40 infoPc rfl (by decide) w2 w1.heap.size (.slice va A.length vc) A.length (pcC A) rfl Hl x Q.length (pcC Q) rfl Hk (y0N _) (y5D _) Ho Hn Hh.size ?_;intro v3 w3 H8 Hm Hu;have H7:=Hh.trans Hm;obtain⟨r0,r1,r2⟩:=HW.out w3 H7)
        | (go_at_call 27;(refine(zb v3 (A++Q) w1.heap.size N w3 (by rw[zo,zH];exact H8) Ht H7.size).mono ?_);rintro e w4 ⟨⟨v4,rfl,Hf⟩,Hv⟩))
       go_roundw
       case rel=>exact⟨k+1,D,A++Q ++ [mkP N],by first|omega|go_num,e4,Hs,Hd,z7 Hf,z7 (H7.trans Hv),by rw[zH,zH];simp;omega⟩
       case measure=>simp[intOf];omega
  . have ky:a=b.size:=by omega
    have Hc:=y0u (bl b) a (by rw[HL.out];omega);have H5:=HA.out;rw[Hc]at H5;have hd:=HD.out;rw[Hc]at hd;have kx:L.length<=k:=by
     rcases Nat.lt_or_ge k L.length with h|h
     . rw[List.drop_eq_getElem_cons h]at hd;cases hd
     . exact h
    have Hd:=z7 H5;clear H5 hd Hc;go_wp2;go_ret2
    exact⟨Hj.out.trans (HB.out.mono Hj.out.size),.inr ⟨A,_,Hd.out,rfl,zd HO.out Hj.out.size⟩⟩
