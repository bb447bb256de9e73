/- PZ -/
import Derived.Test.YtndlekaahjccdaaGreatDoorPY
set_option linter.all false
set_option maxRecDepth 100000
set_option maxHeartbeats 40000000
namespace Go.Proofs.YtndlekaahjccdaaGreatDoor
open Go Go.Rf Go.RowKit Go.Proofs.Tryz
def letB(c:UInt8)(f:Bool):Bool:=keB c && !(c==32&&f)
theorem y9n(x:UInt8)(f:Bool)(w:World):Calls prog 51 #[.int .u8 (x.toNat:Int),.bool f] w fun e w'=>e=.returned (.bool (letB x f))/\w=w':=by
 have h:=x.toNat_lt;have K1:=z7 (y7J x);cases hd:cpB x with
 | true=>
  rw[hd]at K1;have H5:x≠32:=by rintro rfl;cases hd
  have e:letB x f=true:=by unfold letB keB;rw[hd,show(x==32)=false from beq_eq_false_iff_ne.2 H5];rfl
  rw[e];clear hd e H5
  go_enter func51,ntmps51
  go_wp2_with (go_at_call 79;refine(K1.out _).mono ?_;rintro e w1 ⟨rfl,rfl⟩)
  all_goals go_ret
  all_goals exact⟨rfl,rfl⟩
 | false=>
  rw[hd]at K1;have h3:∀c:UInt8,(c==32)=decide (c.toNat=32):=y07 (by decide +kernel);have e:letB x f=((decide (97<=x.toNat)&&decide (x.toNat<=122)) || (decide (x.toNat=32) && !f)):=by
   unfold letB keB;rw[hd,Bool.false_or,h3];by_cases H5:x.toNat=32
   . rw[H5];cases f<;>rfl
   . simp[H5]
  rw[e];clear hd e h3;cases f
  all_goals
   go_enter func51,ntmps51
   go_wp2_with (go_at_call 79;refine(K1.out _).mono ?_;rintro e w1 ⟨rfl,rfl⟩)
   all_goals go_ret
   all_goals (refine⟨y03 ?_,rfl⟩;rw[Bool.eq_iff_iff];simp;omega)
theorem yHE(s:ByteArray)(w:World)(hs:s.size<=1000000):Calls prog 30 #[.string s] w fun e w'=>e=.returned (.int .i64 (keN (bl s):Nat))/\Below w.heap.size w w':=by
 have HL:Hid ((bl s).length=s.size):=zJ s;have K1:=z7 y9n;obtain⟨R,hR⟩:∃R,R=keN (bl s):=⟨_,rfl⟩;rw[<-hR];have HR:=z7 hR;clear hR
 go_enter func30,ntmps30
 go_wp2
 go_loopw [3] (fun iv wr=>∃n:Nat,iv=.int .i64 (n:Int)/\n<=s.size/\Hid (((bl s).take n).all keB=true)/\Hid (0<n->(bl s).head?≠some 32)/\wr=w) (fun iv _=>s.size-(intOf iv).toNat)
 case atStart=>exact⟨0,rfl,zD,z7 (by simp),z7 (fun h=>absurd h (by decide)),rfl⟩
 case round=>
  obtain⟨n,rfl,H9,HA,H3,rfl⟩:=hrel;obtain⟨q,hq,H5⟩:∃q,(((n:Int)==0)=q)/\q=decide (n=0):=⟨_,rfl,by rw[Bool.eq_iff_iff];simp⟩;have i1:IntKind.i64.wrap ((n:Int)+1)=(n:Int)+1:=wi64 _ (by omega) (by omega);have i2:((n:Int)+1).toNat=n+1:=by omega
  have i3:(0:Int)<=(n:Int)+1:=by omega
  by_cases Hb:n<s.size
  . obtain⟨x,hx⟩:=zM (bl s) n (by rw[HL.out];exact Hb)
    have X:∀h,s[n]'h=x:=zS s n x hx;have Hf:=x.toNat_lt;have kl:=fun w=>K1.out x q w
    cases hl:letB x q with
    | true=>
     rw[hl]at kl;have KL:=z7 kl;have hk:keB x=true:=by unfold letB at hl;rw[Bool.and_eq_true]at hl;exact hl.1
     have Hc:Hid (((bl s).take (n+1)).all keB=true):=z7 ((zr keB (bl s) n x hx HA.out).1 hk);have Hd:Hid (0<n+1->(bl s).head?≠some 32):=z7 (fun _=>by
      rcases Nat.eq_zero_or_pos n with h0|h0
      . subst h0
        rw[List.head?_eq_getElem?,hx];intro e;have e2:x=32:=zF e;subst e2;rw[H5]at hl;cases hl
      . exact H3.out h0)
     clear hx hk hl H5 kl
     go_wp2_with (go_at_call 51;refine(KL.out _).mono ?_;rintro e w1 ⟨rfl,rfl⟩)
     go_roundw
     case rel=>exact⟨n+1,by first|omega|go_num,by omega,Hc,Hd,by first|exact rfl|trivial⟩
     case measure=>simp[intOf];omega
    | false=>
     rw[hl]at kl;have KL:=z7 kl;have hK:=yFR (bl s) n (by rw[HL.out];exact H9) HA.out H3.out (fun c hc=>by
      rw[hx]at hc;cases hc;unfold letB at hl;cases hk:keB x with
      | false=>exact .inl rfl
      | true=>
       rw[hk,Bool.true_and,H5]at hl;simp at hl;exact .inr hl)
     rw[<-HR.out]at hK;by_cases Ha:n+1<s.size
     . obtain⟨z,hz⟩:=zM (bl s) (n+1) (by rw[HL.out];exact Ha)
       have Z:∀h,s[n+1]'h=z:=zS s (n+1) z hz;have He:=z.toNat_lt;have j1:(n:Int)+1<(s.size:Int):=by omega
       by_cases H6:x=58
       . have gx:((x.toNat:Int)==58)=true:=by subst H6;rfl
         by_cases H8:z=32
         . have gz:((z.toNat:Int)==32)=true:=by subst H8;rfl
           rw[if_pos ⟨by rw[hx,H6],by rw[hz,H8]⟩]at hK;subst hK;clear hx hz hl kl H6 H8 H5
           go_wp2_with (go_at_call 51;refine(KL.out _).mono ?_;rintro e w1 ⟨rfl,rfl⟩)
           go_ret
           exact⟨rfl,z8⟩
         . have gz:((z.toNat:Int)==32)=false:=by rw[Y2];exact y0c z 32 (by decide) H8
           rw[if_neg (fun h=>by rw[hz]at h;exact H8 (zF h.2))]at hK;subst hK;clear hx hz hl kl H6 H8 H5
           go_wp2_with (go_at_call 51;refine(KL.out _).mono ?_;rintro e w1 ⟨rfl,rfl⟩)
           go_ret
           exact⟨rfl,z8⟩
       . have gx:((x.toNat:Int)==58)=false:=by rw[Y2];exact y0c x 58 (by decide) H6
         rw[if_neg (fun h=>by rw[hx]at h;exact H6 (zF h.1))]at hK;subst hK;clear hx hz hl kl H6 H5
         go_wp2_with (go_at_call 51;refine(KL.out _).mono ?_;rintro e w1 ⟨rfl,rfl⟩)
         go_ret
         exact⟨rfl,z8⟩
     . have j1:¬(n:Int)+1<(s.size:Int):=by omega
       have H7:(bl s)[n+1]?=none:=List.getElem?_eq_none (by rw[HL.out];omega);rw[if_neg (fun h=>by rw[H7]at h;cases h.2)]at hK;subst hK;clear hx hl kl H5 H7
       go_wp2_with (go_at_call 51;refine(KL.out _).mono ?_;rintro e w1 ⟨rfl,rfl⟩)
       go_ret
       exact⟨rfl,z8⟩
  . have j1:¬(n:Int)+1<(s.size:Int):=by omega
    have H7:(bl s)[n]?=none:=List.getElem?_eq_none (by rw[HL.out];omega);have hK:=yFR (bl s) n (by rw[HL.out];exact H9) HA.out H3.out (fun c hc=>by rw[H7]at hc;cases hc);rw[<-HR.out,if_neg (fun h=>by rw[H7]at h;cases h.1)]at hK;subst hK;clear H5 H7
    go_wp2_with fail
    go_ret
    exact⟨rfl,z8⟩
theorem yH8(s:ByteArray)(w:World)(hs:s.size<=1000000):Calls prog 31 #[.string s] w fun e w'=>e=.returned (.bool (secL (bl s)))/\Below w.heap.size w w':=by
 have HL:Hid ((bl s).length=s.size):=zJ s;obtain⟨R,hR⟩:∃R,R=secL (bl s):=⟨_,rfl⟩;rw[<-hR];unfold secL at hR;rw[HL.out]at hR;by_cases h3:s.size<3
 . rw[decide_eq_false (by omega),Bool.false_and,Bool.false_and]at hR
   subst hR
   go_enter func31,ntmps31
   go_wp2_with fail
   go_ret
   exact⟨rfl,z8⟩
 . obtain⟨x,hx⟩:=zM (bl s) 0 (by rw[HL.out];omega)
   have X:∀h,s[0]'h=x:=zS s 0 x hx;have Hc:=x.toNat_lt;rw[decide_eq_true (by omega),Bool.true_and,List.head?_eq_getElem?,hx]at hR;by_cases H6:x=91
   . have gx:((x.toNat:Int) != 91)=false:=by subst H6;rfl
     rw[H6,show(some (91:UInt8)==some 91)=true from rfl,Bool.true_and]at hR;have HR:=z7 hR;have Hd:¬(s.size:Int)<3:=by omega
     clear hR H6 hx
     go_enter func31,ntmps31
     go_wp2_with fail
     go_loopw [3] (fun iv wr=>∃n:Nat,iv=.int .i64 (n:Int)/\n<=s.size/\Hid (((bl s).take n).all noB=true)/\wr=w) (fun iv _=>s.size-(intOf iv).toNat)
     case atStart=>exact⟨0,rfl,zD,z7 (by simp),rfl⟩
     case round=>
      obtain⟨n,rfl,H8,HA,rfl⟩:=hrel;have i1:IntKind.i64.wrap ((s.size:Int)-1)=(s.size:Int)-1:=wi64 _ (by omega) (by omega);by_cases H9:n<s.size
      . obtain⟨z,hz⟩:=zM (bl s) n (by rw[HL.out];exact H9)
        have Z:∀h,s[n]'h=z:=zS s n z hz;have Hb:=z.toNat_lt;by_cases H5:z=93
        . have gz:((z.toNat:Int)==93)=true:=by subst H5;rfl
          have hv:R=((n:Int)==(s.size:Int)-1):=by
           rw[HR.out,show((bl s).takeWhile fun c=>!(c==93)).length=n from y1k noB (bl s) n HA.out (by rw[HL.out];exact H8) (fun c hc=>by rw[hz]at hc;cases hc;subst H5;rfl),Bool.eq_iff_iff];simp;omega
          subst hv;clear hz H5
          go_wp2_with fail
          go_ret
          exact⟨rfl,z8⟩
        . have gz:((z.toNat:Int)==93)=false:=by rw[Y2];exact y0c z 93 (by decide) H5
          have Ha:Hid (((bl s).take (n+1)).all noB=true):=z7 ((zr noB (bl s) n z hz HA.out).1 (by simpa[noB]using H5));clear hz H5
          go_wp2_with fail
          go_roundw
          case rel=>exact⟨n+1,by first|omega|go_num,by omega,Ha,by first|exact rfl|trivial⟩
          case measure=>simp[intOf];omega
      . have H7:n=s.size:=by omega
        subst H7;have hv:R=false:=by
         have ha:=HA.out;rw[List.take_of_length_le (by rw[HL.out];exact zA)]at ha;rw[HR.out,show((bl s).takeWhile fun c=>!(c==93))=bl s from y4s noB _ ha,HL.out,Y2];omega
        subst hv
        go_wp2_with fail
        go_ret
        exact⟨rfl,z8⟩
   . have gx0:((x.toNat:Int)==91)=false:=by rw[Y2];exact y0c x 91 (by decide) H6
     have gx:((x.toNat:Int) != 91)=true:=by rw[bne,gx0];rfl
     rw[show(some x==some (91:UInt8))=false by rw[Y2];exact fun h=>H6 (zF h),Bool.false_and]at hR;subst hR;clear H6 hx
     go_enter func31,ntmps31
     go_wp2_with fail
     go_ret
     exact⟨rfl,z8⟩
def yGz:Value->Nat
 | .string s=>s.size
 | _=>0
theorem yCC(r:List UInt8):Lib.trimLeftB (32::r) 32=Lib.trimLeftB r 32:=by unfold Lib.trimLeftB;simp[List.dropWhile]
theorem yCB(l:List UInt8)(h:l.head?≠some 32):Lib.trimLeftB l 32=l:=by
 unfold Lib.trimLeftB;cases l with
 | nil=>rfl
 | cons x l=>rw[List.dropWhile_cons_of_neg];simpa using h
theorem yDh(r:List UInt8):Lib.trimRightB (r ++ [32]) 32=Lib.trimRightB r 32:=by unfold Lib.trimRightB;simp[List.dropWhile]
theorem yCA(l:List UInt8)(c:UInt8)(h:c≠32):Lib.trimRightB (l ++ [c]) 32=l ++ [c]:=by
 unfold Lib.trimRightB;rw[List.reverse_append,List.reverse_singleton,List.singleton_append,List.dropWhile_cons_of_neg (by simpa using h)];simp
theorem take_at(l:List UInt8)(k:Nat)(x:UInt8)(h:l[k]?=some x)(hk:k+1=l.length):l=l.take k ++ [x]:=by
 conv=>lhs;rw[<-List.take_append_drop k l,y0h l k x h,List.drop_eq_nil_of_le (by omega)]
theorem yEF(s:ByteArray)(w:World)(hs:s.size<=1000000):Calls prog 33 #[.string s] w fun e w'=>e=.returned (.string (trB s))/\Below w.heap.size w w':=by
 obtain⟨R,hR⟩:∃R,R=Lib.trimRightB (Lib.trimLeftB (bl s) 32) 32:=⟨_,rfl⟩;have hT:trB s=⟨R.toArray⟩:=by unfold trB;rw[yDg,hR]
 rw[hT];have HR:=z7 hR;clear hR hT
 go_enter func33,ntmps33
 go_wp2
 go_loopw [0] (fun iv wr=>∃t:ByteArray,iv=.string t/\t.size<=1000000/\Hid (R=Lib.trimRightB (Lib.trimLeftB (bl t) 32) 32)/\wr=w) (fun iv _=>yGz iv)
 case atStart=>exact⟨s,rfl,hs,HR,rfl⟩
 case round=>
  obtain⟨t,rfl,ht,HT,rfl⟩:=hrel;have HL:Hid ((bl t).length=t.size):=zJ t;have H9:(0<t.size/\(bl t)[0]?=some 32)\/((t.size=0\/(0<t.size/\∃x,(bl t)[0]?=some x/\x≠32))/\(bl t).head?≠some 32):=by
   by_cases h0:t.size=0
   . exact .inr ⟨.inl h0,by rw[List.head?_eq_getElem?,List.getElem?_eq_none (by rw[HL.out];omega)];intro h;cases h⟩
   . obtain⟨x,hx⟩:=zM (bl t) 0 (by rw[HL.out];omega)
     by_cases H5:x=32
     . exact .inl ⟨by omega,by rw[hx,H5]⟩
     . exact .inr ⟨.inr ⟨by omega,x,hx,H5⟩,by rw[List.head?_eq_getElem?,hx];intro h;exact H5 (zF h)⟩
  rcases H9 with⟨h1,hx⟩|⟨H9,hh⟩
  . have X:∀h,t[0]'h=32:=zS t 0 32 hx
    have y1:(0:Int)<(t.size:Int):=by omega
    have y2:(1:Int)<=(t.size:Int):=by omega
    have Hb:Hid (R=Lib.trimRightB (Lib.trimLeftB (bl (t.extract 1 t.size)) 32) 32):=z7 (by
     rw[HT.out,y1o]
     conv=>lhs;rw[show bl t=32::(bl t).drop 1 from by have:=y0h (bl t) 0 32 hx;simpa using this]
     rw[yCC])
    clear hx
    go_wp2_with fail
    go_roundw
    case rel=>exact⟨t.extract 1 t.size,rfl,by rw[zG];omega,Hb,by first|exact rfl|trivial⟩
    case measure=>simp[yGz,zG];omega
  . have Hc:Hid (R=Lib.trimRightB (bl t) 32):=z7 (by rw[HT.out,yCB _ hh])
    rcases H9 with h0|⟨h1,x,hx,H5⟩
    all_goals
     first
      | (have y1:¬(0:Int)<(t.size:Int):=by omega
         clear h0 hh)
      | (have X:∀h,t[0]'h=x:=zS t 0 x hx
         have He:=x.toNat_lt;have y1:(0:Int)<(t.size:Int):=by omega
         have gx:((x.toNat:Int)==32)=false:=by rw[Y2];exact y0c x 32 (by decide) H5
         clear hx H5 hh)
     go_wp2_with fail
     go_loopw [0] (fun iv wx=>∃t:ByteArray,iv=.string t/\t.size<=1000000/\Hid (R=Lib.trimRightB (bl t) 32)/\wx=wr) (fun iv _=>yGz iv)
     case atStart=>exact⟨t,rfl,ht,Hc,rfl⟩
     case round=>
      obtain⟨u,rfl,hu,HU,rfl⟩:=hrel;have H8:Hid ((bl u).length=u.size):=zJ u;by_cases hz:u.size=0
      . have z1:¬(0:Int)<(u.size:Int):=by omega
        have e:(⟨R.toArray⟩:ByteArray)=u:=by rw[HU.out,List.eq_nil_of_length_eq_zero (show(bl u).length=0 by rw[H8.out];exact hz)];exact(b_of (by rw[List.eq_nil_of_length_eq_zero (show(bl u).length=0 by rw[H8.out];exact hz)];rfl)).symm
        have EE:=z7 e;clear e hz
        go_wp2_with fail
        go_ret
        exact⟨by rw[EE.out];rfl,z8⟩
      . obtain⟨z,H7⟩:=zM (bl u) (u.size-1) (by rw[H8.out];omega)
        have Z:∀h,u[u.size-1]'h=z:=zS u (u.size-1) z H7;have Hd:=z.toNat_lt;have z1:(0:Int)<(u.size:Int):=by omega
        have z2:IntKind.i64.wrap ((u.size:Int)-1)=(u.size:Int)-1:=wi64 _ (by omega) (by omega);have z3:((u.size:Int)-1).toNat=u.size-1:=by omega
        have z4:(0:Int)<=(u.size:Int)-1:=by omega
        have z5:(u.size:Int)-1<(u.size:Int):=by omega
        have z6:(u.size:Int)-1<=(u.size:Int):=by omega
        have H6:=take_at (bl u) (u.size-1) z H7 (by rw[H8.out];omega);by_cases H5:z=32
        . have gz:((z.toNat:Int)==32)=true:=by subst H5;rfl
          have Ha:Hid (R=Lib.trimRightB (bl (u.extract 0 (u.size-1))) 32):=z7 (by
           rw[HU.out,y1N,List.drop_zero,Nat.sub_zero]
           conv=>lhs;rw[H6,H5]
           rw[yDh])
          clear H6 H7 H5 hz
          go_wp2_with fail
          go_roundw
          case rel=>exact⟨u.extract 0 (u.size-1),rfl,by rw[zG];omega,Ha,by first|exact rfl|trivial⟩
          case measure=>simp[yGz,zG];omega
        . have gz:((z.toNat:Int)==32)=false:=by rw[Y2];exact y0c z 32 (by decide) H5
          have e:(⟨R.toArray⟩:ByteArray)=u:=by
           have:R=bl u:=by rw[HU.out];conv=>lhs;rw[H6]
                           rw[yCA _ _ H5,<-H6]
           exact b_of this
          have EE:=z7 e;clear e H6 H7 H5 hz
          go_wp2_with fail
          go_ret
          exact⟨by rw[EE.out];rfl,z8⟩
theorem yB8(s:ByteArray)(m:Nat)(w:World)(hs:s.size<=1000000)(hm:m<=1000001):Calls prog 32 #[.string s,.int .i64 (m:Int)] w fun e w'=>(∃v,e=.returned v/\w'.ownsRow w.heap.size 9 1 v (Lib.splitB coB 0 (m-1) s).length (scells (Lib.splitB coB 0 (m-1) s)))/\Below w.heap.size w w':=by
 have HL:Hid ((bl s).length=s.size):=zJ s;obtain⟨R,hR⟩:∃R,R=Lib.splitB coB 0 (m-1) s:=⟨_,rfl⟩;rw[<-hR];have HR:Hid (R = []++Lib.splitB coB 0 (m-1-([]:List ByteArray).length) (s.extract 0 s.size)):=z7 (by rw[hR,show s.extract 0 s.size=s by apply ByteArray.ext;apply Array.ext';rw[y0E];rfl];rfl);clear hR
 go_enter func32,ntmps32
 go_wp2
 go_loopw [5,6,7] (fun v av iv wr=>∃(a i:Nat) (A:List ByteArray),av=.int .i64 (a:Int)/\iv=.int .i64 (i:Int)/\a<=i/\i<=s.size/\A.length<=a/\(A.length=0\/A.length<=m-1)/\Hid (R=A++Lib.splitB coB 0 (m-1-A.length) (s.extract a s.size))/\Hid (∀j c,a<=j->j<i->(bl s)[j]?=some c->c≠44)/\Hid (wr.ownsRow w.heap.size 9 1 v A.length (scells A))/\Hid (Below w.heap.size w wr)) (fun _ _ iv _=>s.size-(intOf iv).toNat)
 case atStart=>exact⟨0,0,[],rfl,rfl,zA,zD,zA,.inl rfl,HR,z7 (fun j c h1 h2=>by omega),z7 (World.ownsRow_nil _ _ _ _),z7 z8⟩
 case round=>
  obtain⟨a,i,A,rfl,rfl,Hh,Hm,Hj,Hi,H8,HN,HO,HB⟩:=hrel;obtain⟨a1,c1,rfl⟩:=zN HO.out;have Hb:A.length<70368744177664:=by omega
  have Ha:(A.length+1)*16<=140737488355328:=by omega
  have i1:IntKind.i64.wrap ((m:Int)-1)=(m:Int)-1:=wi64 _ (by omega) (by omega);have i2:(a:Int)<=(i:Int):=by omega
  have i3:(i:Int)<=(s.size:Int):=by omega
  have i4:(a:Int)<=(s.size:Int):=by omega
  have i5:(0:Int)<=(a:Int):=by omega
  by_cases He:i<s.size/\A.length<m-1
  . obtain⟨Hd,Hc⟩:=He
    obtain⟨x,hx⟩:=zM (bl s) i (by rw[HL.out];exact Hd);have X:∀h,s[i]'h=x:=zS s i x hx;have Hl:=x.toNat_lt;have y1:(i:Int)<(s.size:Int):=by omega
    have y2:(A.length:Int)<(m:Int)-1:=by omega
    by_cases H6:x=44
    . have gx:((x.toNat:Int)==44)=true:=by subst H6;rfl
      have Hk:Hid (R=(A ++ [s.extract a i])++Lib.splitB coB 0 (m-1-(A ++ [s.extract a i]).length) (s.extract (i+1) s.size)):=z7 (by
       have hq:m-1-A.length=(m-1-(A.length+1))+1:=by omega
       rw[H8.out,hq,yIK s _ a i Hh Hd (by rw[hx,H6]) (fun j c h1 h2=>HN.out j c h1 h2),List.append_assoc,zH]
       rfl)
      have H9:Hid (∀j c,i+1<=j->j<i+1->(bl s)[j]?=some c->c≠44):=z7 (fun j c h1 h2=>by omega);clear hx H6
      go_wp2_with (at_builtin;refine zR rfl _ _ 49 9 rfl underlying49 (.string ⟨#[]⟩) 1 16 infoStr rfl (by decide) wr w.heap.size (.slice a1 A.length c1) A.length (scells A) rfl HO.out #[.string (s.extract a i)] rfl (by simp[Value.oneCell']) rfl Hb Ha HB.out.size ?_;intro v' w6 H5 H7 Hg)
      go_roundw
      case rel=>exact⟨i+1,i+1,A ++ [s.extract a i],by first|omega|go_num,by first|omega|go_num,zA,by omega,by rw[zH];simp;omega,.inr (by rw[zH];simp;omega),Hk,H9,z7 (by rw[zH];rw[show scells (A ++ [s.extract a i])=scells A ++ [.string (s.extract a i)] from by simp[scells]];exact H5),z7 (HB.out.trans H7)⟩
      case measure=>simp[intOf];omega
    . have gx:((x.toNat:Int)==44)=false:=by rw[Y2];exact y0c x 44 (by decide) H6
      have H9:Hid (∀j c,a<=j->j<i+1->(bl s)[j]?=some c->c≠44):=z7 (fun j c h1 h2 h3=>by
       rcases Nat.lt_or_ge j i with h4|h4
       . exact HN.out j c h1 h4 h3
       . rw[show j=i by omega,hx]at h3;cases h3;exact H6)
      clear hx H6
      go_wp2_with fail
      go_roundw
      case rel=>exact⟨a,i+1,A,rfl,by first|omega|go_num,by omega,by omega,Hj,Hi,H8,H9,HO,HB⟩
      case measure=>simp[intOf];omega
  . have hv:R=A ++ [s.extract a s.size]:=by
     rw[H8.out];by_cases hr:A.length<m-1
     . have Hn:i=s.size:=by omega
       rw[Lib.splitB_miss _ _ _ _ (yHv s a (fun k c h1 h2=>HN.out k c h1 (by have:=(List.getElem?_eq_some_iff.1 h2).1;rw[HL.out]at this;omega) h2))]
     . rw[show m-1-A.length=0 by omega,Lib.splitB_zero]
    have Hf:(i<s.size/\¬(A.length:Int)<(m:Int)-1)\/¬(i:Int)<(s.size:Int):=by
     by_cases h:i<s.size
     . exact .inl ⟨h,by omega⟩
     . exact .inr (by omega)
    have HV:=z7 hv;clear hv He;rcases Hf with⟨h1,h2⟩|h1
    all_goals
     go_wp2_with (at_builtin;refine zR rfl _ _ 49 9 rfl underlying49 (.string ⟨#[]⟩) 1 16 infoStr rfl (by decide) wr w.heap.size (.slice a1 A.length c1) A.length (scells A) rfl HO.out #[.string (s.extract a s.size)] rfl (by simp[Value.oneCell']) rfl Hb Ha HB.out.size ?_;intro v' w6 H5 H7 Hg)
     go_ret
     exact⟨⟨_,rfl,by rw[HV.out,zH,show scells (A ++ [s.extract a s.size])=scells A ++ [.string (s.extract a s.size)] from by simp[scells]];exact H5⟩,HB.out.trans H7⟩
def cTr(q:Bool):List SymF:=[(50,[.a (.sym 2),.a (lS timL)],one1 (lB q))]
noncomputable abbrev yJF(T:Told):Option V2:=symEv T 28 [.a (.sym 0)]
theorem rTr0:yJF (tTs false false [] [] [] [])=some (one1 (lB false)):=by kernel_rfl
theorem rTr1(q:Bool):yJF (tTs true true [] [] sTs (cTr q))=some (one1 (lB q)):=by cases q<;>kernel_rfl
theorem rTr2(q t:Bool):yJF (tTs true false [(.eql,.sym 3,u8 32,lB t)] [(.sym 0,lI 29,.sym 3)] sTs (cTr q))=some (one1 (lB (q&&t))):=by cases q<;>cases t<;>kernel_rfl
theorem yCQ(s:ByteArray)(w:World)(hG:GW w)(hs:s.size<=1000000):Calls prog 28 #[.string s] w fun e w'=>e=.returned (.bool (timesL (bl s)))/\Below w.heap.size w w':=by
 have hL:=zJ s
 letI:=sgL [.string s,.int .i64 s.size,.string (s.extract 0 29),.int .u8 (byN (bl s) 29)] ⟨zU _,zV _ _,zU _,zV _ _,trivial⟩
 have hl:AllP LenOk [((0:Nat),At.sym 1)]:=⟨⟨s,rfl,fun _=>rfl⟩,trivial⟩;unfold timesL;rw[hL];by_cases h:29<=s.size
 . rw[decide_eq_true h,Bool.true_and]
   have e1:bl (s.extract 0 29)=(bl s).take 29:=by rw[y1N];rfl
   have H5:AllP y5u sTs:=⟨⟨s,0,29,fun _=>rfl,rfl,⟨.i64,fun _=>rfl⟩,by omega,h,fun _=>rfl⟩,trivial⟩;have kl:COk w (50,[.a (.sym 2),.a (lS timL)],one1 (lB (zW ((bl s).take 29) timL))):=
    ⟨[.string (s.extract 0 29),.string ⟨⟨timL⟩⟩],_,fun _=>rfl,fun _=>rfl,fun w' _=>by rw[<-e1];exact y1w (s.extract 0 29) ⟨⟨timL⟩⟩ w' (by rw[zG];omega) (by decide)⟩
   by_cases h2:s.size=29
   . rw[decide_eq_true h2,Bool.true_or,Bool.and_true]
     exact y0W (vals:=[.string s]) hG (T:=tTs true true [] [] sTs (cTr _)) ⟨⟨y2C (a:=s.size) (c:=29) (k:=.i64) (fun _=>rfl) (fun _=>rfl) (by simp;omega),y0S (a:=s.size) (c:=29) (k:=.i64) (fun _=>rfl) (fun _=>rfl) (by simp;omega),trivial⟩,trivial,H5,hl,⟨kl,trivial⟩,trivial,trivial⟩ rfl (rTr1 _) (fun _=>rfl)
   . rw[decide_eq_false h2,Bool.false_or]
     obtain⟨x,hx⟩:=zM (bl s) 29 (by rw[hL];omega);have H6:∀c:UInt8,((c.toNat:Int)==((32:Nat):Int))=(some c==some (32:UInt8)):=y07 (by decide +kernel);exact y0W (vals:=[.string s]) hG (T:=tTs true false [(.eql,.sym 3,u8 32,lB ((bl s)[29]?==some 32))] [(.sym 0,lI 29,.sym 3)] sTs (cTr _)) ⟨⟨y2C (a:=s.size) (c:=29) (k:=.i64) (fun _=>rfl) (fun _=>rfl) (by simp;omega),y0S (a:=s.size) (c:=29) (k:=.i64) (fun _=>rfl) (fun _=>rfl) (by simp;omega),y0S (a:=(byN (bl s) 29:Int)) (c:=((32:Nat):Int)) (k:=.u8) (fun _=>rfl) (fun _=>rfl) (by unfold byN;rw[hx];exact H6 x),trivial⟩,
      ⟨⟨s,29,.i64,fun _=>rfl,fun _=>rfl,by omega,fun _=>by rw[<-y9C s 29 (by omega)];rfl⟩,trivial⟩,H5,hl,⟨kl,trivial⟩,trivial,trivial⟩ rfl (rTr2 _ _) (fun _=>rfl)
 . rw[decide_eq_false h,Bool.false_and]
   exact y0W (vals:=[.string s]) hG (T:=tTs false false [] [] [] []) ⟨⟨y2C (a:=s.size) (c:=29) (k:=.i64) (fun _=>rfl) (fun _=>rfl) (by simp;omega),y0S (a:=s.size) (c:=29) (k:=.i64) (fun _=>rfl) (fun _=>rfl) (by simp;omega),trivial⟩,trivial,trivial,hl,trivial,trivial,trivial⟩ rfl rTr0 (fun _=>rfl)
theorem yDy(R:List Pc ⊕ Nat)(b:ByteArray)(X:(Nat×List Pc) ⊕ Nat)(h:R=match X with | .inl (st,l)=>if st=1 then .inr b.size else .inl l | .inr a=>.inr a):(∀a,X=.inr a->R=.inr a)/\(∀st l,X=.inl (st,l)->st=1->R=.inr b.size)/\(∀st l,X=.inl (st,l)->st≠1->R=.inl l):=
 ⟨fun a e=>by rw[h,e],fun st l e h1=>by rw[h,e];exact if_pos h1,fun st l e h1=>by rw[h,e];exact if_neg h1⟩
theorem y9j(b:ByteArray)(w:World)(hG:GW w)(hs:b.size<=1000):Calls prog 16 #[.string b] w (RefR (srtM b) w):=by
 have HL:Hid ((bl b).length=b.size):=zJ b;obtain⟨L,hL⟩:∃L,L=lnF (bl b) 0:=⟨_,rfl⟩;have k1:=y2K b w (by omega);have Hw:=y1a b;obtain⟨R,hR⟩:∃R,R=srtM b:=⟨_,rfl⟩;rw[<-hR];rw[<-hL]at k1 Hw;unfold srtM at hR;obtain⟨X,hX⟩:∃X,X=walkS srtS b 0 [] (lnF (bl b) 0):=⟨_,rfl⟩;rw[<-hX]at hR;obtain⟨x1,x2,x3⟩:=yDy R b X hR;have K1:=z7 k1;have K2:=z7 (fun(s:ByteArray) (w':World) (h:Below w.heap.size w w') (hz:s.size<=1000)=>yCQ s w' (hG.bel h) (by omega));have K3:=z7 (fun(s:ByteArray) (w':World) (hz:s.size<=1000)=>yEQ s w' (by omega));have HX:=z7 hX;have Hy:=z7 hL;have X1:=z7 x1;have X2:=z7 x2;have X3:=z7 x3;clear k1 hR hL hG hX x1 x2 x3
 go_enter func16,ntmps16
 go_wp2_with (go_at_call 23;(with_reducible refine(K1.out).mono ?_);rintro e w1 ⟨v,rfl,Hm,Ht⟩;obtain⟨a1,c1,rfl⟩:=zN Hm)
 have HR:=z7 (y01 Hm);have Ho:=z7 Ht;clear Hm Ht
 go_loopw [4,6,7] (fun v sv iv wr=>∃(k a st:Nat) (A:List Pc),sv=.int .i64 (st:Int)/\iv=.int .i64 (k:Int)/\st<=2/\a<=b.size/\Hid (L.drop k=lnF (bl b) a)/\Hid (X=walkS srtS b st A (lnF (bl b) a))/\Hid (wr.ownsRow w1.heap.size 99 3 v A.length (pcC A))/\Hid (Below w1.heap.size w1 wr)/\A.length<=3*a) (fun _ _ iv _=>L.length-(intOf iv).toNat)
 case atStart=>exact⟨0,0,0,[],rfl,rfl,by decide,zD,Hy,HX,z7 (World.ownsRow_nil _ _ _ _),z7 z8,zD⟩
 case round=>
  obtain⟨k,a,st,A,rfl,rfl,Hz,Hv,HD,HA,HO,HB,kA⟩:=hrel;by_cases Hs:a<b.size
  . obtain⟨E,hE⟩:∃E,E=nxE (bl b) a:=⟨_,rfl⟩
    obtain⟨D,hD⟩:∃D,D=nxB (bl b) E:=⟨_,rfl⟩;have Hf:=zq (bl b) a (by rw[HL.out];exact Hs);have e1:a<=E:=by rw[hE];exact y20 _ _
    have e2:E<=b.size:=by rw[hE,<-HL.out];exact y2g _ _ (by rw[HL.out];exact Hv)
    have e3:E<=D:=by rw[hD];exact y3C _ _
    have e4:D<=b.size:=by rw[hD,<-HL.out];exact y41 _ _ (by rw[HL.out];exact e2)
    have e5:a<D:=by rw[hD,hE];exact y5J _ _ (by rw[HL.out];exact Hs)
    rw[<-hE,<-hD]at Hf;obtain⟨hp,hd,HQ⟩:=y3L (HD.out.trans Hf);have H5:=HA.out;rw[Hf]at H5;unfold walkS at H5;obtain⟨g,o,c',e,_⟩:=y0X HR.out _ _ (y0J b L k _ hp 0 _ rfl);simp only[Value.slice.injEq]at e;obtain⟨rfl,_,rfl⟩:=e;have hw:∀w' (h:Below w1.heap.size w1 w'),_:=fun w' h=>y1V (HR.out.keep h) k (a,E,D) hp
    obtain⟨S,hS⟩:∃S,S=b.extract a E:=⟨_,rfl⟩;have ky:S.size=E-a:=by rw[hS,zG];omega
    have Hq:=y7U b E D e3 e4;obtain⟨N,hN⟩:∃N,N=b.extract E D:=⟨_,rfl⟩;have kz:N.size=D-E:=by rw[hN,zG];omega
    simp only at hw;rw[<-hN]at Hq;rw[<-hS]at H5;simp only[<-hS,<-hN]at hw;rw[<-hN,<-Hq]at H5;have HW:=z7 hw;have Hn:=z7 (Ho.out.trans (HB.out.mono Ho.out.size));obtain⟨p0,p1,p2⟩:=HW.out wr HB.out;have z1:=HB.out.size;have Hh:=z7 hd;obtain⟨va,vc,rfl⟩:=zN HO.out;have Hl:A.length<1000000:=by omega
    have Hp:∀x:Pc,(A ++ [x]).length<1000000:=fun x=>by rw[zH];simp;omega
    have KT:=z7 (fun w' h=>K2.out S w' h (by omega));have KD:=z7 (fun w'=>K3.out S w' (by omega));clear hw hp hd Hf Hq hN hS hE hD;have Hu:(st=1/\timesL (bl S)=true/\srtS st S=some (2,[mkP S]))\/(st=1/\timesL (bl S)=false/\srtS st S=none)\/(st=0/\S.size=0/\srtS st S=some (0,[]))\/(st=2/\S.size=0/\srtS st S=some (0,[])) \/
     (st=2/\S.size≠0/\srtS st S=some (2,[txP teN S]))\/(st=0/\S.size≠0/\dgsL (bl S)=true/\srtS st S=some (1,[mkP S]))\/(st=0/\S.size≠0/\dgsL (bl S)=false/\srtS st S=none):=by
     unfold srtS;by_cases h1:st=1
     . cases ht:timesL (bl S)with
       | true=>exact .inl ⟨h1,rfl,by rw[if_pos h1,if_pos rfl]⟩
       | false=>exact .inr (.inl ⟨h1,rfl,by rw[if_pos h1,if_neg (by decide)]⟩)
     . by_cases h0:S.size=0
       . rcases(show st=0\/st=2 by omega)with h|h
         . exact .inr (.inr (.inl ⟨h,h0,by rw[if_neg h1,if_pos h0]⟩))
         . exact .inr (.inr (.inr (.inl ⟨h,h0,by rw[if_neg h1,if_pos h0]⟩)))
       . by_cases h2:st=2
         . exact .inr (.inr (.inr (.inr (.inl ⟨h2,h0,by rw[if_neg h1,if_neg h0,if_pos h2]⟩))))
         . cases ht:dgsL (bl S)with
           | true=>exact .inr (.inr (.inr (.inr (.inr (.inl ⟨by omega,h0,rfl,by rw[if_neg h1,if_neg h0,if_neg h2,if_pos rfl]⟩)))))
           | false=>exact .inr (.inr (.inr (.inr (.inr (.inr ⟨by omega,h0,rfl,by rw[if_neg h1,if_neg h0,if_neg h2,if_neg (by decide)]⟩)))))
    rcases Hu with⟨rfl,ht,Hc⟩|⟨rfl,ht,Hc⟩|⟨rfl,h0,Hc⟩|⟨rfl,h0,Hc⟩|⟨rfl,h0,Hc⟩|⟨rfl,h0,ht,Hc⟩|⟨rfl,h0,ht,Hc⟩
    . have Hr:1<=S.size:=by
       rw[<-zJ];cases hb:bl S with
       | nil=>rw[hb]at ht;exact absurd ht (by decide)
       | cons x r=>simp
      have KT0:=KT.out;rw[ht]at KT0;have KT:=z7 KT0;clear KT0 ht;rw[Hc]at H5;simp only at H5;clear Hc;by_cases H9:N.size=0
      . obtain⟨n1,n2,n3⟩:=y2d N H9
        rw[y5N N H9,List.append_nil]at H5;have Hb:=z7 H5;clear H5 H9
        go_wp2_with (first
         | (go_at_call 27;refine(zb (.slice va A.length vc) A w1.heap.size S w2 Hi Hl (H7).size).mono ?_;rintro e w3 ⟨⟨v3,rfl,H8⟩,Hg⟩;have H6:=(H7).trans Hg;obtain⟨r0,r1,r2⟩:=HW.out w3 H6)
         | (go_at_call 28;refine(KT.out _ Hn.out).mono ?_;rintro e w2 ⟨rfl,He⟩;have H7:=HB.out.trans (He.mono HB.out.size);have Hi:=zK HO.out He;obtain⟨q0,q1,q2⟩:=HW.out w2 H7)
         | fail)
        go_roundw
        case rel=>exact⟨k+1,D,2,(A ++ [mkP S]),rfl,by first|omega|go_num,by decide,e4,Hh,Hb,z7 (H8),z7 (H6),by first|omega|(simp only[zH,List.length_cons,List.length_nil];omega)⟩
        case measure=>simp[intOf];omega
      . obtain⟨n1,n2,n3⟩:=y0n N H9
        rw[y2n N H9]at H5;have Hb:=z7 H5;clear H5 H9
        go_wp2_with (first
         | (go_at_call 27;refine(zb v3 (A ++ [mkP S]) w1.heap.size N w3 H8 (Hp _) (H6).size).mono ?_;rintro e w4 ⟨⟨v4,rfl,Ha⟩,Hk⟩;have Hd:=(H6).trans Hk)
         | (go_at_call 27;refine(zb (.slice va A.length vc) A w1.heap.size S w2 Hi Hl (H7).size).mono ?_;rintro e w3 ⟨⟨v3,rfl,H8⟩,Hg⟩;have H6:=(H7).trans Hg;obtain⟨r0,r1,r2⟩:=HW.out w3 H6)
         | (go_at_call 28;refine(KT.out _ Hn.out).mono ?_;rintro e w2 ⟨rfl,He⟩;have H7:=HB.out.trans (He.mono HB.out.size);have Hi:=zK HO.out He;obtain⟨q0,q1,q2⟩:=HW.out w2 H7)
         | fail)
        go_roundw
        case rel=>exact⟨k+1,D,2,((A ++ [mkP S]) ++ [mkP N]),rfl,by first|omega|go_num,by decide,e4,Hh,Hb,z7 (Ha),z7 (Hd),by first|omega|(simp only[zH,List.length_cons,List.length_nil];omega)⟩
        case measure=>simp[intOf];omega
    . have KT0:=KT.out
      rw[ht]at KT0;have KT:=z7 KT0;clear KT0 ht;rw[Hc]at H5;simp only at H5;have Hb:=z7 (X1.out _ H5);clear H5 Hc
      go_upto_region 15 with(go_at_call 28;refine(KT.out _ Hn.out).mono ?_;rintro e w2 ⟨rfl,He⟩;have H7:=HB.out.trans (He.mono HB.out.size);have Hi:=zK HO.out He;obtain⟨q0,q1,q2⟩:=HW.out w2 H7)
      go_region
      go_wp2
      go_ret2
      exact⟨(Hn.out.trans (He.mono Hn.out.size)).drew,.inl ⟨a,Hb.out,rfl⟩⟩
    . obtain⟨s1,s2,s3⟩:=y2d S h0
      clear h0;rw[Hc]at H5;simp only at H5;clear Hc;by_cases H9:N.size=0
      . obtain⟨n1,n2,n3⟩:=y2d N H9
        rw[y5N N H9,List.append_nil]at H5;rw[List.append_nil]at H5;have Hb:=z7 H5;clear H5 H9
        go_wp2_with (first
         | fail)
        go_roundw
        case rel=>exact⟨k+1,D,0,A,rfl,by first|omega|go_num,by decide,e4,Hh,Hb,z7 (HO.out),z7 (HB.out),by first|omega|(simp only[zH,List.length_cons,List.length_nil];omega)⟩
        case measure=>simp[intOf];omega
      . obtain⟨n1,n2,n3⟩:=y0n N H9
        rw[y2n N H9]at H5;rw[List.append_nil]at H5;have Hb:=z7 H5;clear H5 H9
        go_wp2_with (first
         | (go_at_call 27;refine(zb (.slice va A.length vc) A w1.heap.size N wr HO.out Hl (HB.out).size).mono ?_;rintro e w4 ⟨⟨v4,rfl,Ha⟩,Hk⟩;have Hd:=(HB.out).trans Hk)
         | fail)
        go_roundw
        case rel=>exact⟨k+1,D,0,(A ++ [mkP N]),rfl,by first|omega|go_num,by decide,e4,Hh,Hb,z7 (Ha),z7 (Hd),by first|omega|(simp only[zH,List.length_cons,List.length_nil];omega)⟩
        case measure=>simp[intOf];omega
    . obtain⟨s1,s2,s3⟩:=y2d S h0
      clear h0;rw[Hc]at H5;simp only at H5;clear Hc;by_cases H9:N.size=0
      . obtain⟨n1,n2,n3⟩:=y2d N H9
        rw[y5N N H9,List.append_nil]at H5;rw[List.append_nil]at H5;have Hb:=z7 H5;clear H5 H9
        go_wp2_with (first
         | fail)
        go_roundw
        case rel=>exact⟨k+1,D,0,A,rfl,by first|omega|go_num,by decide,e4,Hh,Hb,z7 (HO.out),z7 (HB.out),by first|omega|(simp only[zH,List.length_cons,List.length_nil];omega)⟩
        case measure=>simp[intOf];omega
      . obtain⟨n1,n2,n3⟩:=y0n N H9
        rw[y2n N H9]at H5;rw[List.append_nil]at H5;have Hb:=z7 H5;clear H5 H9
        go_wp2_with (first
         | (go_at_call 27;refine(zb (.slice va A.length vc) A w1.heap.size N wr HO.out Hl (HB.out).size).mono ?_;rintro e w4 ⟨⟨v4,rfl,Ha⟩,Hk⟩;have Hd:=(HB.out).trans Hk)
         | fail)
        go_roundw
        case rel=>exact⟨k+1,D,0,(A ++ [mkP N]),rfl,by first|omega|go_num,by decide,e4,Hh,Hb,z7 (Ha),z7 (Hd),by first|omega|(simp only[zH,List.length_cons,List.length_nil];omega)⟩
        case measure=>simp[intOf];omega
    . have Hr:1<=S.size:=by omega
      obtain⟨s1,s2,s3⟩:=y0n S h0;clear h0;rw[Hc]at H5;simp only at H5;clear Hc;by_cases H9:N.size=0
      . obtain⟨n1,n2,n3⟩:=y2d N H9
        rw[y5N N H9,List.append_nil]at H5;have Hb:=z7 H5;clear H5 H9
        go_wp2_with (first
         | (go_at_call 29;refine(y09 (.slice va A.length vc) A w1.heap.size teN S wr HO.out Hl (HB.out).size).mono ?_;rintro e w3 ⟨⟨v3,rfl,H8⟩,Hg⟩;have H6:=(HB.out).trans Hg;obtain⟨r0,r1,r2⟩:=HW.out w3 H6)
         | fail)
        go_roundw
        case rel=>exact⟨k+1,D,2,(A ++ [txP teN S]),rfl,by first|omega|go_num,by decide,e4,Hh,Hb,z7 (H8),z7 (H6),by first|omega|(simp only[zH,List.length_cons,List.length_nil];omega)⟩
        case measure=>simp[intOf];omega
      . obtain⟨n1,n2,n3⟩:=y0n N H9
        rw[y2n N H9]at H5;have Hb:=z7 H5;clear H5 H9
        go_wp2_with (first
         | (go_at_call 27;refine(zb v3 (A ++ [txP teN S]) w1.heap.size N w3 H8 (Hp _) (H6).size).mono ?_;rintro e w4 ⟨⟨v4,rfl,Ha⟩,Hk⟩;have Hd:=(H6).trans Hk)
         | (go_at_call 29;refine(y09 (.slice va A.length vc) A w1.heap.size teN S wr HO.out Hl (HB.out).size).mono ?_;rintro e w3 ⟨⟨v3,rfl,H8⟩,Hg⟩;have H6:=(HB.out).trans Hg;obtain⟨r0,r1,r2⟩:=HW.out w3 H6)
         | fail)
        go_roundw
        case rel=>exact⟨k+1,D,2,((A ++ [txP teN S]) ++ [mkP N]),rfl,by first|omega|go_num,by decide,e4,Hh,Hb,z7 (Ha),z7 (Hd),by first|omega|(simp only[zH,List.length_cons,List.length_nil];omega)⟩
        case measure=>simp[intOf];omega
    . have Hr:1<=S.size:=by omega
      obtain⟨s1,s2,s3⟩:=y0n S h0;clear h0;have KD0:=KD.out;rw[ht]at KD0;have KD:=z7 KD0;clear KD0 ht;rw[Hc]at H5;simp only at H5;clear Hc;by_cases H9:N.size=0
      . obtain⟨n1,n2,n3⟩:=y2d N H9
        rw[y5N N H9,List.append_nil]at H5;have Hb:=z7 H5;clear H5 H9
        go_wp2_with (first
         | (go_at_call 27;refine(zb (.slice va A.length vc) A w1.heap.size S w2 Hi Hl (H7).size).mono ?_;rintro e w3 ⟨⟨v3,rfl,H8⟩,Hg⟩;have H6:=(H7).trans Hg;obtain⟨r0,r1,r2⟩:=HW.out w3 H6)
         | (go_at_call 26;refine(KD.out _).mono ?_;rintro e w2 ⟨rfl,He⟩;have H7:=HB.out.trans (He.mono HB.out.size);have Hi:=zK HO.out He;obtain⟨q0,q1,q2⟩:=HW.out w2 H7)
         | fail)
        go_roundw
        case rel=>exact⟨k+1,D,1,(A ++ [mkP S]),rfl,by first|omega|go_num,by decide,e4,Hh,Hb,z7 (H8),z7 (H6),by first|omega|(simp only[zH,List.length_cons,List.length_nil];omega)⟩
        case measure=>simp[intOf];omega
      . obtain⟨n1,n2,n3⟩:=y0n N H9
        rw[y2n N H9]at H5;have Hb:=z7 H5;clear H5 H9
        go_wp2_with (first
         | (go_at_call 27;refine(zb v3 (A ++ [mkP S]) w1.heap.size N w3 H8 (Hp _) (H6).size).mono ?_;rintro e w4 ⟨⟨v4,rfl,Ha⟩,Hk⟩;have Hd:=(H6).trans Hk)
         | (go_at_call 27;refine(zb (.slice va A.length vc) A w1.heap.size S w2 Hi Hl (H7).size).mono ?_;rintro e w3 ⟨⟨v3,rfl,H8⟩,Hg⟩;have H6:=(H7).trans Hg;obtain⟨r0,r1,r2⟩:=HW.out w3 H6)
         | (go_at_call 26;refine(KD.out _).mono ?_;rintro e w2 ⟨rfl,He⟩;have H7:=HB.out.trans (He.mono HB.out.size);have Hi:=zK HO.out He;obtain⟨q0,q1,q2⟩:=HW.out w2 H7)
         | fail)
        go_roundw
        case rel=>exact⟨k+1,D,1,((A ++ [mkP S]) ++ [mkP N]),rfl,by first|omega|go_num,by decide,e4,Hh,Hb,z7 (Ha),z7 (Hd),by first|omega|(simp only[zH,List.length_cons,List.length_nil];omega)⟩
        case measure=>simp[intOf];omega
    . have Hr:1<=S.size:=by omega
      obtain⟨s1,s2,s3⟩:=y0n S h0;clear h0;have KD0:=KD.out;rw[ht]at KD0;have KD:=z7 KD0;clear KD0 ht;rw[Hc]at H5;simp only at H5;have Hb:=z7 (X1.out _ H5);clear H5 Hc
      go_upto_region 10 with(go_at_call 26;refine(KD.out _).mono ?_;rintro e w2 ⟨rfl,He⟩;have H7:=HB.out.trans (He.mono HB.out.size);have Hi:=zK HO.out He;obtain⟨q0,q1,q2⟩:=HW.out w2 H7)
      go_region
      go_wp2
      go_ret2
      exact⟨(Hn.out.trans (He.mono Hn.out.size)).drew,.inl ⟨a,Hb.out,rfl⟩⟩
  . have kx:a=b.size:=by omega
    have Hj:=y0u (bl b) a (by rw[HL.out];omega);have H5:=HA.out;rw[Hj]at H5;have hd:=HD.out;rw[Hj]at hd;have k9:L.length<=k:=by
     rcases Nat.lt_or_ge k L.length with h|h
     . rw[List.drop_eq_getElem_cons h]at hd;cases hd
     . exact h
    unfold walkS at H5;by_cases h1:st=1
    . have Hb:=z7 (X2.out _ _ H5 h1)
      subst h1;clear H5 hd Hj;go_wp2;go_ret2
      exact⟨Ho.out.trans (HB.out.mono Ho.out.size),.inl ⟨b.size,Hb.out,rfl⟩⟩
    . have Hb:=z7 (X3.out _ _ H5 h1)
      have Hc:((st:Int)==1)=false:=by rw[Y2];omega
      clear H5 hd Hj;go_wp2;go_ret2
      exact⟨Ho.out.trans (HB.out.mono Ho.out.size),.inr ⟨A,_,Hb.out,rfl,zd HO.out Ho.out.size⟩⟩
