/- P6 -/
import Derived.Test.YtndlekaahjccdaaGreatDoorP5
set_option linter.all false
set_option maxRecDepth 100000
set_option maxHeartbeats 40000000
set_option maxHeartbeats 4000000
namespace Go.Proofs.YtndlekaahjccdaaGreatDoor
open Go.RowKit Go.Proofs.Tryz
theorem y3Q:bTwos.length=4:=rfl
theorem y6g(i:Nat)(s:Int×Int×Int)(h:bTwos[i]?=some s):bTwoArr.extract (i*3) (i*3+3)=#[.int .i64 s.1,.int .i32 s.2.1,.int .i32 s.2.2]:=by
 have hi:i<4:=(List.getElem?_eq_some_iff.1 h).1
 match i,hi,h with
 | 0,_,h=>cases h;rfl
 | 1,_,h=>cases h;rfl
 | 2,_,h=>cases h;rfl
 | 3,_,h=>cases h;rfl
theorem yBx:∀s∈bTwos,0<=s.1/\s.1<=255/\0<=s.2.1/\s.2.1<=1000/\0<=s.2.2/\s.2.2<=1000:=by decide
def twosL:List (Int×Int×Int)->Int->Int->List UInt8×Bool
 | [],_,_=>([],false)
 | s::l,lead,second=>if lead=136/\second=s.1 then textM [s.2.1,s.2.2]else twosL l lead second
noncomputable def bSignsM(lead second:Int):List UInt8×Bool:=if(oneM lead second).2=true then textM [(oneM lead second).1]else twosL bTwos lead second
theorem row_one(w:World)(p:Int)(t:TypeId):Row (w.alloc (.cells #[.int .i32 p] t)) (.slice (some ⟨w.heap.size,0,none⟩) 1 1) 1 (icells [p]):=by
 refine⟨_,_,rfl,fun j x hj=>⟨w.heap.size,0,rfl,?_⟩⟩
 match j,hj with
 | 0,hj=>simp[icells]at hj;subst hj;rw[World.cell?_alloc_new];rfl
theorem yJI(w:World)(x:Value)(p q:Int)(t:TypeId):Row (w.alloc (.cells #[x,.int .i32 p,.int .i32 q] t)) (.slice (some ⟨w.heap.size,1,none⟩) 2 2) 2 (icells [p,q]):=by
 refine⟨_,_,rfl,fun j y hj=>⟨w.heap.size,1,rfl,?_⟩⟩
 match j,hj with
 | 0,hj=>simp[icells]at hj;subst hj;rw[World.cell?_alloc_new];rfl
 | 1,hj=>simp[icells]at hj;subst hj;rw[World.cell?_alloc_new];rfl
theorem y6e(lead second:Int)(w:World)(h0:0<=lead)(h1:lead<=255)(h2:0<=second)(h3:second<=255):
 Calls prog 303 #[.int .u8 lead,.int .u8 second] w fun e w'=>e=.returned (.tuple #[.string ⟨(bSignsM lead second).1.toArray⟩,.bool (bSignsM lead second).2])/\Below w.heap.size w w':=by
 have c1:=fun w=>yJR lead second w h0 h1 h2 h3
 have hm:bSignsM lead second=if(oneM lead second).2=true then textM [(oneM lead second).1]else twosL bTwos lead second:=rfl
 generalize oneM lead second=p at *;generalize bSignsM lead second=R at *;obtain⟨p1,p2⟩:=p;simp only at c1 hm;have C1:=z7 c1;by_cases hp:p2=true
 . subst hp
   rw[if_pos rfl]at hm;have HM:=z7 hm;clear c1 hm
   go_enter func303,ntmps303
   go_wp2_with (first
    | (go_at_call 355;with_reducible refine(C1.out _).mono ?_;rintro e w1 ⟨rfl,H9⟩)
    | (go_at_call 206;refine(y4J _ [p1] _ (row_one _ _ _) (by simp)).mono ?_;rintro e w2 ⟨rfl,H8⟩))
   go_ret2
   refine⟨by rw[HM.out];rfl,?_⟩;exact bt (bal H9 _) H8
 . have Hd:p2=false:=by simpa using hp
   subst Hd;rw[if_neg (by decide)]at hm;have HM:=z7 hm;clear c1 hm hp
   go_enter func303,ntmps303
   go_wp2_with (first
    | (go_at_call 355;with_reducible refine(C1.out _).mono ?_;rintro e w1 ⟨rfl,H9⟩)
    | (go_at_call 356;refine(y9D _).mono ?_;rintro e W ⟨rfl,hb⟩))
   have Hc:=bt H9 hb;obtain⟨A,hA⟩:∃A,A=bTwoArr:=⟨_,rfl⟩;rw[<-hA];have HA:=z7 hA;clear hA
   go_loopw [25] (fun t wr=>∃i:Nat,t=.int .i64 (i:Int)/\i<=4/\Hid (R=twosL (bTwos.drop i) lead second)/\Below W.heap.size W wr) (fun t _=>(4-intOf t).toNat)
   case atStart=>exact⟨0,rfl,by omega,HM,z8⟩
   case round=>
    obtain⟨i,rfl,hi,hR,H5⟩:=hrel;have Ha:=Hc.trans (H5.mono Hc.size);by_cases He:i<4
    . obtain⟨s,hs⟩:=zM bTwos i (by rw[y3Q];exact He)
      have Hb:=yBx s (List.mem_of_getElem? hs);have hx:=y6g i s hs;rw[<-HA.out]at hx;have hr:=hR.out;rw[drop_at bTwos i (List.getElem?_eq_some_iff.1 hs).1,(List.getElem?_eq_some_iff.1 hs).2]at hr;obtain⟨a,b,q⟩:=s;simp only at Hb hx;rw[twosL]at hr;simp only at hr;obtain⟨a0,a1,b0,b1,q0,q1⟩:=Hb;have HX:=z7 hx;have HR:=z7 hr;clear hx hr hs;by_cases ha:lead=136/\second=a
      . obtain⟨rfl,rfl⟩:=ha
        have hr:=HR.out;rw[if_pos ⟨rfl,rfl⟩]at hr;have H6:=z7 hr;clear hr HR
        go_wp2_with (first
         | (refine zc rfl 365 _ _ rfl 4 364 underlying365 _ underlying364 rfl 3 (by kernel_rfl) A rfl .i64 i rfl (by omega) _ HX.out ?_)
         | (go_at_call 206;refine(y4J _ [b,q] _ (yJI _ _ _ _ _) (by simp)).mono ?_;rintro e w2 ⟨rfl,H8⟩))
        go_ret2
        refine⟨by rw[H6.out];rfl,?_⟩;exact bt (bal Ha _) H8
      . have hr:=HR.out
        rw[if_neg ha]at hr;have H6:=z7 hr;clear hr HR;by_cases hl:lead=136
        . subst hl
          have Hg:(second==a)=false:=by simpa using ha
          clear ha
          go_wp2_with (refine zc rfl 365 _ _ rfl 4 364 underlying365 _ underlying364 rfl 3 (by kernel_rfl) A rfl .i64 i rfl (by omega) _ HX.out ?_)
          go_roundw
          case rel=>exact⟨i+1,by go_num,by omega,H6,H5.alloc H5.size _⟩
          case measure=>simp[intOf];omega
        . have Hf:(lead==136)=false:=by simpa using hl
          clear ha hl
          go_wp2_with (refine zc rfl 365 _ _ rfl 4 364 underlying365 _ underlying364 rfl 3 (by kernel_rfl) A rfl .i64 i rfl (by omega) _ HX.out ?_)
          go_roundw
          case rel=>exact⟨i+1,by go_num,by omega,H6,H5.alloc H5.size _⟩
          case measure=>simp[intOf];omega
    . have H7:i=4:=by omega
      subst H7;have hr:=hR.out;rw[List.drop_of_length_le (by rw[y3Q];exact zA),twosL]at hr;have H6:=z7 hr;clear hr hR
      go_wp2_with fail
      go_ret2
      exact⟨by rw[H6.out];rfl,Ha⟩
def hexD(n:Nat):UInt8:=[48,49,50,51,52,53,54,55,56,57,65,66,67,68,69,70].getD n 0
def hex5(n:Nat):List UInt8:=[hexD (n/4096),hexD (n/256%16),hexD (n/16%16),hexD (n%16),32]
def findM(l:List UInt8)(p:Int):Int:=if p<0\/65535<p then -1 else if Lib.index l (hex5 p.toNat)<0 then -1 else Lib.index l (hex5 p.toNat)/5
theorem y5V(x:Int)(h₀:0<=x)(h₁:x<2147483648):bits .and .i32 x 15=x%16:=bits_mask .i32 31 (by decide) wraps_i32 4 (by decide) x h₀ h₁
theorem y7h(k:Nat)(hk:k<16):∀h,(⟨#[48,49,50,51,52,53,54,55,56,57,65,66,67,68,69,70]⟩:ByteArray)[k]'h=hexD k:=by
 intro h;have:∀j:Fin 16,∀h,(⟨#[48,49,50,51,52,53,54,55,56,57,65,66,67,68,69,70]⟩:ByteArray)[j.val]'h=hexD j.val:=by decide
 exact this ⟨k,hk⟩ h
theorem y8n(s sub:List UInt8):Lib.index s sub<=s.length:=by
 induction s with
 | nil=>simp only[Lib.index];split<;>simp
 | cons b l ih=>
  simp only[Lib.index];split
  . simp;omega
  . split
    . simp;omega
    . simp only[List.length_cons];omega
theorem yI7(s:ByteArray)(p:Int)(w:World)(hT:TW w)(hs:s.size<=100000)(h0 : -2147483648<=p)(h1:p<=2147483647):
 Calls prog 359 #[.string s,.int .i32 p] w fun e w'=>e=.returned (.int .i64 (findM (bl s) p))/\Below w.heap.size w w':=by
 by_cases hp:p<0\/65535<p
 . have hm:findM (bl s) p = -1:=by unfold findM;rw[if_pos hp]
   rw[hm];clear hm;rcases hp with hp|hp
   . go_enter func359,ntmps359
     go_wp2_with fail
     go_ret
     exact⟨rfl,z8⟩
   . go_enter func359,ntmps359
     go_wp2_with fail
     go_ret
     exact⟨rfl,z8⟩
 . obtain⟨n,rfl⟩:=Int.eq_ofNat_of_zero_le (show 0<=p from by omega)
   have hn:n<65536:=by omega
   have hM:findM (bl s) n=if Lib.index (bl s) (hex5 n)<0 then -1 else Lib.index (bl s) (hex5 n)/5:=by
    unfold findM;rw[if_neg hp,Int.toNat_natCast]
   have H6:=y8n (bl s) (hex5 n);rw[zJ]at H6;generalize findM (bl s) n=R at *;have H8:=z7 hM;have H9:=z7 H6;clear hM H6;have e1:bits .and .i32 ((n:Int)/256) 15=(n:Int)/256%16:=y5V _ (by omega) (by omega);have e2:bits .and .i32 ((n:Int)/16) 15=(n:Int)/16%16:=y5V _ (by omega) (by omega);have e3:bits .and .i32 (n:Int) 15=(n:Int)%16:=y5V _ (by omega) (by omega);have x0:=y7h (n/4096) (by omega);have x1:=y7h (n/256%16) (by omega);have x2:=y7h (n/16%16) (by omega);have x3:=y7h (n%16) (by omega);have t0:((n:Int)/4096).toNat=n/4096:=by omega
   have t1:((n:Int)/256%16).toNat=n/256%16:=by omega
   have t2:((n:Int)/16%16).toNat=n/16%16:=by omega
   have t3:((n:Int)%16).toNat=n%16:=by omega
   have y0:(0:Int)<=(n:Int)/4096/\(n:Int)/4096<16:=by omega
   have y1:(0:Int)<=(n:Int)/256%16/\(n:Int)/256%16<16:=by omega
   have y2:(0:Int)<=(n:Int)/16%16/\(n:Int)/16%16<16:=by omega
   have y3:(0:Int)<=(n:Int)%16/\(n:Int)%16<16:=by omega
   go_enter func359,ntmps359
   go_wp2_with fail
   go_region
   have hO:Own (w.alloc (.cells #[.int .u8 ((hexD (n/4096)).toNat:Int),.int .u8 ((hexD (n/256%16)).toNat:Int),.int .u8 ((hexD (n/16%16)).toNat:Int),.int .u8 ((hexD (n%16)).toNat:Int),.int .u8 32] 5))
    w.heap.size (.slice (some ⟨w.heap.size,0,none⟩) 5 5) (hex5 n):=
    ⟨rfl,.inr ⟨w.heap.size,5,_,rfl,zA,heap_alloc_new _ _,zA,by decide,rfl,rfl⟩⟩
   have Ha:=y16 hO.drew;have H7:=(hT.alloc (.cells #[.int .u8 ((hexD (n/4096)).toNat:Int),.int .u8 ((hexD (n/256%16)).toNat:Int),.int .u8 ((hexD (n/16%16)).toNat:Int),.int .u8 ((hexD (n%16)).toNat:Int),.int .u8 32] 5));have H5:Below w.heap.size w (w.alloc (.cells #[.int .u8 ((hexD (n/4096)).toNat:Int),.int .u8 ((hexD (n/256%16)).toNat:Int),.int .u8 ((hexD (n/16%16)).toNat:Int),.int .u8 ((hexD (n%16)).toNat:Int),.int .u8 32] 5)):=(z8).alloc (zA) _;clear hO x0 x1 x2 x3 t0 t1 t2 t3 y0 y1 y2 y3 e1 e2 e3 hT;generalize w.alloc (.cells #[.int .u8 ((hexD (n/4096)).toNat:Int),.int .u8 ((hexD (n/256%16)).toNat:Int),.int .u8 ((hexD (n/16%16)).toNat:Int),.int .u8 ((hexD (n%16)).toNat:Int),.int .u8 32] 5)=W at *;obtain⟨m,hm⟩:=H7.ml;have c1:=fun w hm=>Tryz.strings_Index s ⟨(hex5 n).toArray⟩ m w (by omega) hm
   have hM:=H8.out;have H6:=H9.out;have c1':∀w,w.cell? ⟨3,0,none⟩=some (.int .i64 m)->Calls prog 370 #[.string s,.string ⟨(hex5 n).toArray⟩] w fun e w'=>e=.returned (.int .i64 (Lib.index (bl s) (hex5 n)))/\w'=w:=c1
   clear c1 hp H8 H9;generalize Lib.index (bl s) (hex5 n)=i at *;have C1:=z7 c1';have HM:=z7 hM;have HW:=z7 H7;clear c1' hM H7;by_cases hi:i<0
   . have hM:=HM.out
     rw[if_pos hi]at hM;have HR:=z7 hM;clear hM HM
     go_wp2_with (go_at_call 370;refine(C1.out W.drew hm).mono ?_;rintro e w1 ⟨rfl,rfl⟩)
     go_ret
     exact⟨by rw[HR.out];rfl,H5.drew⟩
   . have hM:=HM.out
     rw[if_neg hi]at hM;have HR:=z7 hM;clear hM HM;obtain⟨j,rfl⟩:=Int.eq_ofNat_of_zero_le (show 0<=i from by omega)
     go_wp2_with (go_at_call 370;refine(C1.out W.drew hm).mono ?_;rintro e w1 ⟨rfl,rfl⟩)
     go_ret
     exact⟨by rw[HR.out];rfl,H5.drew⟩
theorem yIM:∀i:Fin 11,(bStr i.val).size/5 <= [135,122,120,104,94,91,89,157,157,157,157].getD i.val 0:=by decide +kernel
theorem y9J(S:Nat->ByteArray)(k:∀i,i<11->(S i).size/5 <= [135,122,120,104,94,91,89,157,157,157,157].getD i 0)(s:Int×Int×ByteArray)(h:s∈y1g S):
 0<=b5cell s.2.1/\b5cell s.2.1+(s.2.2.size/5:Nat)<=157:=by
 simp only[y1g,List.mem_cons,List.not_mem_nil,or_false]at h;rcases h with h|h|h|h|h|h|h|h|h|h|h
 . subst h;have:=k 0 (by omega);simp[b5cell]at this ⊢;omega
 . subst h;have:=k 1 (by omega);simp[b5cell]at this ⊢;omega
 . subst h;have:=k 2 (by omega);simp[b5cell]at this ⊢;omega
 . subst h;have:=k 3 (by omega);simp[b5cell]at this ⊢;omega
 . subst h;have:=k 4 (by omega);simp[b5cell]at this ⊢;omega
 . subst h;have:=k 5 (by omega);simp[b5cell]at this ⊢;omega
 . subst h;have:=k 6 (by omega);simp[b5cell]at this ⊢;omega
 . subst h;have:=k 7 (by omega);simp[b5cell]at this ⊢;omega
 . subst h;have:=k 8 (by omega);simp[b5cell]at this ⊢;omega
 . subst h;have:=k 9 (by omega);simp[b5cell]at this ⊢;omega
 . subst h;have:=k 10 (by omega);simp[b5cell]at this ⊢;omega
theorem yDK(s:Int×Int×ByteArray)(h:s∈bSpans):0<=b5cell s.2.1/\b5cell s.2.1+(s.2.2.size/5:Nat)<=157:=
 y9J bStr (fun i hi=>yIM ⟨i,hi⟩) s h
theorem yI8(s:ByteArray)(p:Int) : -1<=findM (bl s) p/\findM (bl s) p<=(s.size/5:Nat):=by
 have h:=y8n (bl s) (hex5 p.toNat);rw[zJ]at h;unfold findM
 repeat' split
 all_goals omega
def y4A:List (Int×Int×ByteArray)->Int->List UInt8×Int
 | [],_=>([],0)
 | s::l,a=>if 0<=findM (bl s.2.2) a then(bigL (s.1*256+bsecond (b5cell s.2.1+findM (bl s.2.2) a)) 2,1)else y4A l a
def y9E:List (Int×Int×Int)->Int->Option Int->Option Int
 | [],_,_=>none
 | t::l,a,b=>if a=t.2.1/\b=some t.2.2 then some t.1 else y9E l a b
noncomputable def bBytesM:List Int->List UInt8×Int
 | []=>([],0)
 | a::r=>match y9E bTwos a r.head? with
  | some c=>(bigL (136*256+c) 2,2)
  | none=>y4A bSpans a
theorem yDJ(v:Value)(l:List Int)(w:World)(hT:TW w)(Hh:Row w v l.length (icells l))(hl:l.length<=1073741824)(H7:∀x∈l,-2147483648<=x/\x<=2147483647):
 Calls prog 304 #[v] w fun e w'=>e=.returned (.tuple #[.string ⟨(bBytesM l).1.toArray⟩,.int .i64 (bBytesM l).2])/\Below w.heap.size w w':=by
 obtain⟨av,cap,rfl,hc⟩:=Hh;cases l with
 | nil=>
  go_enter func304,ntmps304
  go_wp2_with fail
  go_ret2
  exact⟨rfl,z8⟩
 | cons a r=>
  obtain⟨g,o,rfl,ha⟩:=hc 0 (.int .i32 a) rfl;rw[Nat.add_zero]at ha;obtain⟨a0,a1⟩:=H7 a (by simp);have hm:bBytesM (a::r)=match y9E bTwos a r.head? with|some c=>(bigL (136*256+c) 2,2)|none=>y4A bSpans a:=rfl
  generalize bBytesM (a::r)=R at *;have Hr:(r = []/\(a::r).length=1)\/∃b,r.head?=some b/\2<=(a::r).length/\w.cell? ⟨g,o+1,none⟩=some (.int .i32 b):=by
   cases r with
   | nil=>exact .inl ⟨rfl,rfl⟩
   | cons b r=>
    refine .inr ⟨b,rfl,by simp,?_⟩;obtain⟨g',o',e,h⟩:=hc 1 (.int .i32 b) rfl;simp only[Option.some.injEq,Addr.mk.injEq]at e;obtain⟨rfl,rfl,_⟩:=e;exact h
  generalize (a::r).length=n at *;have HM:=z7 hm;have H6:=z7 Hr;have HT:=z7 hT;clear hm Hr hc H7 hT;obtain⟨kK⟩:Nonempty (1<=n):=by rcases H6.out with⟨_,h⟩|⟨_,_,h,_⟩<;>exact⟨by omega⟩
  have kI:((n:Int)==0)=false:=by simp;omega
  go_enter func304,ntmps304
  go_wp2_with (go_at_call 356;refine(y9D _).mono ?_;rintro e W ⟨rfl,hb⟩)
  obtain⟨A,hA⟩:∃A,A=bTwoArr:=⟨_,rfl⟩;rw[<-hA];have HA:=z7 hA;clear hA
  go_loopw [13] (fun t wr=>∃i:Nat,t=.int .i64 (i:Int)/\i<=4/\Hid (y9E bTwos a r.head?=y9E (bTwos.drop i) a r.head?)/\Below W.heap.size W wr) (fun t _=>(4-intOf t).toNat)
  case atStart=>exact⟨0,rfl,by omega,rfl,z8⟩
  case round=>
   obtain⟨i,rfl,hi,hR,H5⟩:=hrel;have H8:=hb.trans (H5.mono hb.size);have Ho:=kc H8 ha;have He:∀X,(wr.alloc X).cell? ⟨g,o,none⟩=some (.int .i32 a):=fun X=>kc ((z8).alloc (zA) X) Ho
   by_cases Hi:i<4
   . obtain⟨s,hs⟩:=zM bTwos i (by rw[y3Q];exact Hi)
     have H7:=yBx s (List.mem_of_getElem? hs);have hx:=y6g i s hs;rw[<-HA.out]at hx;have hr:=hR.out;rw[drop_at bTwos i (List.getElem?_eq_some_iff.1 hs).1,(List.getElem?_eq_some_iff.1 hs).2]at hr;obtain⟨c,x,y⟩:=s;simp only at H7 hx;rw[show y9E ((c,x,y)::bTwos.drop (i+1)) a r.head?=if a=x/\r.head?=some y then some c else y9E (bTwos.drop (i+1)) a r.head? from rfl]at hr;obtain⟨c0,c1,x0,x1,y0,y1⟩:=H7;have HX:=z7 hx;have HR:=z7 hr;clear hx hr hs hR;rcases H6.out with⟨Hs,Hw⟩|⟨b,Hc,kJ,Hu⟩
     . have hr:=HR.out
       rw[if_neg (by rw[Hs];simp)]at hr;have HN:=z7 hr;have kx:decide ((1:Int)<(n:Int))=false:=by rw[decide_eq_false_iff_not];omega
       clear hr HR Hs Hw
       go_wp2_with (refine zc rfl 365 _ _ rfl 4 364 underlying365 _ underlying364 rfl 3 (by kernel_rfl) A rfl .i64 i rfl (by omega) _ HX.out ?_)
       go_quiet (fail)
       go_wp2_with fail
       go_roundw
       case rel=>exact⟨i+1,by go_num,by omega,HN,bdnB (H5.alloc H5.size _) _⟩
       case measure=>simp[intOf];omega
     . have Hl:=kc H8 Hu
       have ky:∀X,(wr.alloc X).cell? ⟨g,o+1,none⟩=some (.int .i32 b):=fun X=>kc ((z8).alloc (zA) X) Hl
       have kM:(1:Int)<n:=by omega
       have p0:0<n:=by omega
       have p1:1<n:=by omega
       have p0':(0:Int)<n:=by omega
       have HB:=z7 Hc;clear Hc Hu;by_cases Hd:a=x
       . subst Hd
         by_cases Hb:b=y
         . subst Hb
           have hr:=HR.out;rw[if_pos ⟨rfl,HB.out⟩]at hr;have hm:=HM.out;rw[hr]at hm;have HF:=z7 hm;have c1:=fun w=>y9H 136 c w (by omega) (by omega) (by omega) (by omega)
           have C1:=z7 c1;clear hr hm c1 HR HM
           go_wp2_with (refine zc rfl 365 _ _ rfl 4 364 underlying365 _ underlying364 rfl 3 (by kernel_rfl) A rfl .i64 i rfl (by omega) _ HX.out ?_)
           go_quiet (fail)
           go_wp2_with (go_at_call 357;refine(C1.out _).mono ?_;rintro e w1 ⟨rfl,Hn⟩)
           go_ret2
           refine⟨by rw[HF.out];rfl,?_⟩;exact bt (bdnB (H8.alloc (by have:=H8.size;omega) _) _) Hn
         . have hr:=HR.out
           rw[if_neg (by rw[HB.out];simp[Hb])]at hr;have HN:=z7 hr;have kz:(b==y)=false:=by simpa using Hb
           clear hr HR Hb
           go_wp2_with (refine zc rfl 365 _ _ rfl 4 364 underlying365 _ underlying364 rfl 3 (by kernel_rfl) A rfl .i64 i rfl (by omega) _ HX.out ?_)
           go_quiet (fail)
           go_wp2_with fail
           go_roundw
           case rel=>exact⟨i+1,by go_num,by omega,HN,bdnB (H5.alloc H5.size _) _⟩
           case measure=>simp[intOf];omega
       . have hr:=HR.out
         rw[if_neg (by simp[Hd])]at hr;have HN:=z7 hr;have kA:(a==x)=false:=by simpa using Hd
         clear hr HR Hd
         go_wp2_with (refine zc rfl 365 _ _ rfl 4 364 underlying365 _ underlying364 rfl 3 (by kernel_rfl) A rfl .i64 i rfl (by omega) _ HX.out ?_)
         go_quiet (fail)
         go_wp2_with fail
         go_roundw
         case rel=>exact⟨i+1,by go_num,by omega,HN,bdnB (H5.alloc H5.size _) _⟩
         case measure=>simp[intOf];omega
   . have Hy:i=4:=by omega
     subst Hy;have hr:=hR.out;rw[List.drop_of_length_le (by rw[y3Q];exact zA),y9E]at hr;have hm:=HM.out;rw[hr]at hm;have HF:Hid (R=y4A bSpans a):=hm;clear hr hR hm HM H6 HA
     go_wp2_with (go_at_call 358;refine(y6d _).mono ?_;rintro e V ⟨rfl,Hv⟩)
     have Ha:=H8.trans (Hv.mono H8.size);have kD:=kc Hv Ho;clear Ho He;obtain⟨A2,Hq⟩:∃A2,A2=y2X bStr:=⟨_,rfl⟩;rw[<-Hq];have kF:=z7 Hq;clear Hq
     go_loopw [42] (fun t wq=>∃i:Nat,t=.int .i64 (i:Int)/\i<=11/\Hid (R=y4A (bSpans.drop i) a)/\Below V.heap.size V wq) (fun t _=>(11-intOf t).toNat)
     case atStart=>exact⟨0,rfl,by omega,HF,z8⟩
     case round=>
      obtain⟨i,rfl,hi,hR,H5⟩:=hrel;have Hm:=Ha.trans (H5.mono Ha.size);have kC:=kc H5 kD;have He:∀X,(wr.alloc X).cell? ⟨g,o,none⟩=some (.int .i32 a):=fun X=>kc ((z8).alloc (zA) X) kC
      have p0:0<n:=by omega
      have p0':(0:Int)<n:=by omega
      by_cases Hi:i<11
      . obtain⟨s,hs⟩:=zM bSpans i (by rw[y2W];exact Hi)
        obtain⟨H7,hH⟩:=y9I s (List.mem_of_getElem? hs);obtain⟨k9,HQ⟩:=yDK s (List.mem_of_getElem? hs);have hx:=y5j bStr i s hs;rw[<-kF.out]at hx;have hr:=hR.out;rw[drop_at bSpans i (List.getElem?_eq_some_iff.1 hs).1,(List.getElem?_eq_some_iff.1 hs).2]at hr;obtain⟨c,d,q⟩:=s;simp only at H7 hH hx k9 HQ;rw[show y4A ((c,d,q)::bSpans.drop (i+1)) a=if 0<=findM (bl q) a then(bigL (c*256+bsecond (b5cell d+findM (bl q) a)) 2,1)else y4A (bSpans.drop (i+1)) a from rfl]at hr;obtain⟨c0,c1,d0,d1,q1⟩:=H7;obtain⟨k0,k1⟩:=yI8 q a;have x1:=fun w hT=>yI7 q a w hT (by omega) a0 a1
        have x2:=fun w=>y3r d w (by omega) (by omega)
        generalize findM (bl q) a=k at *;generalize b5cell d=e at *;have Ht:e+k<=157:=by omega
        have x3:=fun w (hk:0<=k)=>yAg (e+k) w (by omega) (by omega)
        have Hg:0<=k->0<=bsecond (e+k)/\bsecond (e+k)<=255:=by intro h;unfold bsecond;split<;>omega
        generalize bsecond (e+k)=z at *;have X1:=z7 x1;have X2:=z7 x2;have X3:=z7 x3;have HX:=z7 hx;have HR:=z7 hr;clear x1 x2 x3 hx hr hs hH hR;have Hz:∀X (x:Grown (wr.alloc X)),x.wd.cell? ⟨g,o,none⟩=some (.int .i32 a):=fun X x=>x.cell (He X)
        have Hp:∀X (x:Grown (wr.alloc X)),TW x.wd:=fun X x=>((HT.out.below Hm HT.out.sz).alloc X).bel x.bel
        have Hk:=fun c t (x:Grown (wr.alloc (.cells c t))) i=>x.cell_new i
        go_wp2_with (refine zc rfl 370 _ _ rfl 11 369 underlying370 _ underlying369 rfl 3 (by kernel_rfl) A2 rfl .i64 i rfl (by omega) _ HX.out ?_)
        refine zj (by kernel_rfl) (by kernel_rfl) ?_
        repeat (first|go_big_quiet_step ((go_at_call 359;exact Calls.grown_of (X1.out _ (Hp _ _))))|quiet_step ((go_at_call 359;exact Calls.grown_of (X1.out _ (Hp _ _)))))
        refine wpQuiet_nil ?_;intro _ Hf;obtain⟨xg,rfl⟩:=Hf;have H9:=xg.bel;have v0:xg.wd.cell? ⟨wr.heap.size,0,none⟩=some (.int .i64 c):=Hk _ _ xg 0;have v1:xg.wd.cell? ⟨wr.heap.size,1,none⟩=some (.int .i64 d):=Hk _ _ xg 1;have Hn:Below w.heap.size w xg.wd:=bt (bal Hm _) H9;have Hc:Below V.heap.size V xg.wd:=bt (bal H5 _) H9;clear Hk Hz Hp He H9;generalize xg.wd=V1 at *;clear xg;have g0:=fun x:Grown V1=>x.cell v0
        have g1:=fun x:Grown V1=>x.cell v1
        by_cases hk:0<=k
        . have hr:=HR.out
          rw[if_pos hk]at hr;obtain⟨z0,z1⟩:=Hg hk;have x4:=fun w=>y9H c z w (by omega) (by omega) (by omega) (by omega)
          have H6:=z7 hr;have X4:=z7 x4;clear hr x4;clear HR Hg;have kH:IntKind.i64.wrap (e+k)=e+k:=by rw[y04];omega;omega
          go_wp2_with fail
          refine zj (by kernel_rfl) (by kernel_rfl) ?_
          repeat (first|go_big_quiet_step ((first|(go_at_call 361;with_reducible exact Calls.grown_of_same (X2.out _))|(go_at_call 360;with_reducible exact Calls.grown_of_same (X3.out _ hk))|(go_at_call 357;with_reducible exact Calls.grown_of (X4.out _))))|quiet_step ((first|(go_at_call 361;with_reducible exact Calls.grown_of_same (X2.out _))|(go_at_call 360;with_reducible exact Calls.grown_of_same (X3.out _ hk))|(go_at_call 357;with_reducible exact Calls.grown_of (X4.out _)))))
          refine wpQuiet_nil ?_;intro _ Hf;obtain⟨xg,rfl⟩:=Hf;have H9:=xg.bel
          go_wp2_with fail
          go_ret2
          exact⟨by rw[H6.out];rfl,bt Hn H9⟩
        . have hr:=HR.out
          rw[if_neg hk]at hr;have H6:=z7 hr;clear hr;clear HR Hg
          go_wp2_with fail
          go_roundw
          case rel=>exact⟨i+1,by go_num,by omega,H6,Hc⟩
          case measure=>simp[intOf];omega
      . have Hj:i=11:=by omega
        subst Hj;have hr:=hR.out;rw[List.drop_of_length_le (by rw[y2W];exact zA),y4A]at hr;have H6:=z7 hr;clear hr hR
        go_wp2_with fail
        go_ret2
        exact⟨by rw[H6.out];rfl,Hm⟩
end Go.Proofs.YtndlekaahjccdaaGreatDoor
set_option maxHeartbeats 2000000
namespace Go.Proofs.YtndlekaahjccdaaGreatDoor
section
open Go.RowKit Go.Proofs.Tryz
theorem y7f:(Tryz.prog.info? 21).map (fun i=>(i.zero,i.size,i.bytes))=some (some (.int .i32 0),1,4):=by kernel_rfl
def OwnI(w:World)(B:Nat)(v:Value)(l:List Int):Prop:=w.ownsRow B 21 1 v l.length (icells l)
theorem OwnI.bel{w w':World}{B:Nat}{v:Value}{l:List Int}(h:OwnI w B v l)(hb:Below w.heap.size w w'):OwnI w' B v l:=zK h hb
def ptsF:Nat->List UInt8->List Int
 | 0,_=>[]
 | f+1,l=>if l = []then []else((dec l).1:Int)::ptsF f (l.drop (dec l).2)
def pts(l:List UInt8):List Int:=ptsF l.length l
theorem yES:∀(f g:Nat) (l:List UInt8),l.length<=f->l.length<=g->ptsF f l=ptsF g l:=by
 intro f
 induction f with
 | zero=>
  intro g l hf hg;have:l = []:=List.eq_nil_of_length_eq_zero (by omega);subst this;cases g<;>simp[ptsF]
 | succ f ih=>
  intro g l hf hg;cases g with
  | zero=>
   have:l = []:=List.eq_nil_of_length_eq_zero (by omega);subst this;simp[ptsF]
  | succ g=>
   simp only[ptsF];split
   . rfl
   . have:=y0A l
     rw[ih g _ (by rw[List.length_drop];omega) (by rw[List.length_drop];omega)]
theorem y9t:pts [] = []:=rfl
theorem y7L(l:List UInt8)(h:l ≠ []):pts l=((dec l).1:Int)::pts (l.drop (dec l).2):=by
 have hp:=List.length_pos_iff.2 h;unfold pts;obtain⟨n,hn⟩:∃n,l.length=n+1:=⟨l.length-1,by omega⟩;have:=y0A l;rw[hn,ptsF,if_neg h,yES n ((l.drop (dec l).2).length) _ (by rw[List.length_drop];omega) (zA)]
theorem yED:∀(f:Nat) (l:List UInt8) (at_ n m:Nat),l.length<=f->scanF f l at_ n=(m,none)->m=n+(ptsF f l).length:=by
 intro f
 induction f with
 | zero=>intro l at_ n m h hs;simp[scanF]at hs;simp[ptsF,hs]
 | succ f ih=>
  intro l at_ n m h hs;simp only[scanF]at hs;simp only[ptsF];split at hs
  . rename_i hl;simp at hs;simp[hl,hs]
  . rename_i hl
    rw[if_neg hl];split at hs
    . simp at hs
    . have:=y0A l
      have:=ih _ _ _ _ (by rw[List.length_drop];omega) hs;simp only[List.length_cons];omega
theorem y1D(l:List UInt8)(m:Nat)(h:scanL l=(m,none)):m=(pts l).length:=by
 have:=yED l.length l 0 0 m (zA) h;unfold pts;omega
theorem yB4:∀(f:Nat) (l:List UInt8) (at_ n:Nat),(scanF f l at_ n).1<=n+l.length:=by
 intro f
 induction f with
 | zero=>intro l at_ n;simp[scanF]
 | succ f ih=>
  intro l at_ n;simp only[scanF];split
  . simp
  . rename_i hl
    split
    . simp
    . have:=ih (l.drop (dec l).2) (at_+(dec l).2) (n+1)
      have:=y0A l;have:=y3N l hl;rw[List.length_drop]at *;omega
theorem y94(s:ByteArray)(w:World)(hT:TW w)(hs:s.size<=9223372036854775807):
 Calls prog 341 #[.string s] w fun e w'=>e=.returned (.int .i64 (scanL (bl s)).1)/\Below w.heap.size w w':=by
 have k1:=fun w hT=>y7A s w hT hs
 obtain⟨a,b,H6⟩:=y1J (scanL (bl s)).2;rw[H6]at k1;generalize (scanL (bl s)).1=n at *;clear H6;have K1:=z7 k1;clear k1
 go_enter func341,ntmps341
 go_wp2_with (go_at_call 279;refine(K1.out _ hT).mono ?_;rintro e w1 ⟨rfl,H5⟩)
 go_ret
 exact⟨rfl,by first|exact H5|exact H5.trans ((z8).alloc H5.size _)⟩
def yAm(l:List UInt8)(B:Nat)(w:World)(e:Ending)(w':World):Prop:=
 ∃v,e=.returned (.tuple #[v,faultV (scanL l).2])/\OwnI w' B v (if(scanL l).2=none then pts l else [])/\Below w.heap.size w w'
theorem y6P(s:ByteArray)(w:World)(hT:TW w)(hs:s.size<=1073741824):
 Calls prog 207 #[.string s] w (yAm (bl s) w.heap.size w):=by
 have k1:=fun w hT=>y7A s w hT (by omega)
 have l0:=Live.fresh w #[.int .i64 0,.int .i64 0] 40 0 _ rfl;have l1:=Live.fresh w #[.int .i64 0,.int .i64 0] 40 1 _ rfl;have k2:=fun a b w=>y0a a b w
 rcases hR:scanL (bl s)with⟨n,o⟩
 rw[hR]at k1;simp only at k1;have K1:=z7 k1;have K2:=z7 k2;have HR:=z7 hR;clear k1 k2 hR;cases o with
 | some k=>
  simp only[faultV]at K1
  go_enter func207,ntmps207
  go_wp2_with (first
   | (go_at_call 279;refine(K1.out _ (hT.alloc _)).mono ?_;rintro e w1 ⟨rfl,H7⟩;obtain⟨a1,a2⟩:=l0.keep H7;obtain⟨a3,a4⟩:=l1.keep H7;have Hi:=(Live.keep l0 H7).lt)
   | (go_at_call 11;refine(K2.out _ _ _).mono ?_;rintro e w2 ⟨rfl,H8⟩))
  have q0:=(Live.fresh w1 #[.int .i64 2,.int .i64 k] 40 0 _ rfl).keep H8;have q1:=(Live.fresh w1 #[.int .i64 2,.int .i64 k] 40 1 _ rfl).keep H8;have m0:=((l0.keep H7).alloc (.cells #[.int .i64 2,.int .i64 k] 40)).keep H8;have m1:=((l1.keep H7).alloc (.cells #[.int .i64 2,.int .i64 k] 40)).keep H8;have Hh:Below w.heap.size w w2:=bt (bal (bt ((z8).alloc (zA) _) H7) _) H8;clear H8 H7 l0 l1 a1 a2 a3 a4 Hi;have g0:=fun x:Grown w2=>x.cell q0.1
  have g1:=fun x:Grown w2=>x.cell q1.1
  refine y02 2 (by kernel_rfl) (by kernel_rfl) ?_;simp only[List.take_succ_cons,List.take_zero,List.drop_succ_cons,List.drop_zero]
  repeat (first|go_big_quiet_step (fail)|quiet_step (fail))
  refine wpQuiet_nil ?_;intro _ k9;obtain⟨xg,rfl⟩:=k9;obtain⟨a1,a2⟩:=m0.keep xg.bel;obtain⟨a3,a4⟩:=m1.keep xg.bel;have kC:=bt Hh xg.bel;clear g0 g1;generalize xg.wd=W at *
  go_wp2_with fail
  refine bodyPost_ret (v:=.tuple #[.slice none 0 0,.agg #[.int .i64 2,.int .i64 k]]) (by simp[results,results207,go_sem,a1,a2,a3,a4]) rfl ?_;unfold yAm;rw[HR.out];refine⟨_,rfl,World.ownsRow_nil _ _ _ _,?_⟩;exact(kC.setCell (zA) _).setCell (zA) _
 | none=>
  have hn:n<=s.size:=by
   have:=yB4 (bl s).length (bl s) 0 0;have e:=HR.out;unfold scanL at e;rw[e,zJ]at this;simpa using this
  have Hj:n=(pts (bl s)).length:=y1D _ _ HR.out;obtain⟨i0,hi,HQ,Hz,Hy⟩:=info_parts y7f;obtain⟨L,hL⟩:∃L,L=pts (bl s):=⟨_,rfl⟩;have Ho:Hid ((bl s).length=s.size):=zJ s;rw[<-hL]at Hj;have HN:=z7 Hj;have HL:=z7 hL;clear Hj hL;simp only[faultV]at K1
  go_enter func207,ntmps207
  go_wp2_with (first
   | (go_at_call 279;refine(K1.out _ (hT.alloc _)).mono ?_;rintro e w1 ⟨rfl,H7⟩;obtain⟨a1,a2⟩:=l0.keep H7;obtain⟨a3,a4⟩:=l1.keep H7;have Hi:=(Live.keep l0 H7).lt)
   | (go_at_call 11;refine(K2.out _ _ _).mono ?_;rintro e w2 ⟨rfl,H8⟩)
   | (refine wpList_make_own _ rfl _ _ 32 rfl _ 21 i0 (.int .i32 0) 1 underlying32 hi HQ Hz .i64 .i64 (n:Int) n rfl rfl rfl (by rw[Hy];omega) (by unfold maxLen;omega) (zA) ?_;intro W H6 Hc))
  have m0:=((l0.keep H7).alloc (.cells #[.int .i64 0,.int .i64 0] 40)).keep H8;have m1:=((l1.keep H7).alloc (.cells #[.int .i64 0,.int .i64 0] 40)).keep H8;have Hh:Below w.heap.size w w2:=bt (bal (bt ((z8).alloc (zA) _) H7) _) H8;have H5:Below w2.heap.size w2 W:=(z8).grown Hc (zA) (by intro k hk;cases hk);have H6:OwnI W w2.heap.size (.slice (some ⟨w2.heap.size,0,none⟩) 0 n) []:=H6;have Hv:=ItS.made W s;have Hw:Below w2.heap.size w2 (W.iter s 0):=H5.alloc H5.size _;have Hb:OwnI (W.iter s 0) w2.heap.size (.slice (some ⟨w2.heap.size,0,none⟩) 0 n) []:=zK H6 ((z8).alloc (zA) _);have kH:w2.heap.size<=W.heap.size:=H5.size;clear H8 H7 l0 l1 a1 a2 a3 a4 Hi Hc H5 H6;generalize W.iter s 0=W0 at *;generalize W.heap.size=r at *
  go_loopw [6] (fun v wr=>∃(k:Nat) (acc:List Int),OwnI wr w2.heap.size v acc/\ItS wr r s k/\k<=s.size/\acc.length<=k/\Hid (L=acc++pts ((bl s).drop k))/\Below w2.heap.size w2 wr) (fun _ wr=>s.size-wr.iterPos r)
  case atStart=>exact⟨0,[],Hb,Hv,zD,zA,by show L=_;rw[HL.out];rfl,Hw⟩
  case round=>
   obtain⟨k,acc,H6,hI,hk,kF,Hn,H5⟩:=hrel;have Hk:=hI.ne H6;have He:=hI.pos;have Ha:∀w':World,(∀j,j≠r->w'.heap[j]?=wr.heap[j]?)->w'.ownsRow w2.heap.size 21 1 _ acc.length (icells acc):=fun w' h=>za H6 (fun q hq=>h q (fun e=>Hk (by rw[hq,e])))
   have HP:=z7 He;have kK:=z7 Hk;have kJ:=z7 Ha;clear He Hk Ha;clear Hv Hw Hb;by_cases ky:k<s.size
   . rcases hd:dec ((bl s).drop k)with⟨c,j⟩
     have Hs:=y0A ((bl s).drop k);have Hr:=y3M ((bl s).drop k);have Hd:(bl s).drop k ≠ []:=by
      intro e;have:=congrArg List.length e;rw[List.length_drop,Ho.out]at this;simp at this;omega
     have Hl:=y3N _ Hd;have e1:=y7L _ Hd;rw[List.length_drop,Ho.out]at Hl;rw[hd]at Hs Hr Hl e1;simp only at Hs Hr Hl e1;rw[List.drop_drop]at e1;have e2:Hid (L=(acc ++ [(c:Int)])++pts ((bl s).drop (k+j))):=by show L=_;rw[Hn.out,e1,List.append_assoc];rfl
     have HD:=z7 hd;clear hd;clear Hd e1 Hn
     go_wp2_with (first
      | (at_next;refine zu rfl _ rfl wr r s k rfl hI ky c j HD ?_;intro w3 Hu kx Hq)
      | (at_builtin;(refine zR rfl _ _ 32 21 rfl underlying32 (.int .i32 0) 1 4 y7f rfl (by decide) w3 w2.heap.size u6 acc.length (icells acc) rfl (kJ.out w3 kx) #[.int .i32 (c:Int)] rfl (by simp[Value.oneCell']) rfl (by omega) (by omega) (zE H5.size Hq.size) ?_;intro v' w4 H9 kD kA)))
     have Hg:some r≠_:=kK.out;have Ht:=Hu.blk (kA r Hu.lt Hg);have Hm:Below w2.heap.size w2 w4:=(H5.grown Hq H5.size (by intro q hq;cases hq;exact kH)).trans kD;have Hp:=Ht.pos;have Hf:OwnI w4 w2.heap.size v' (acc ++ [(c:Int)]):=by unfold OwnI;rw[y3G,zH];exact H9
     have kI:=z7 Hp;clear Hp;clear Hg H9;go_roundw
     case rel=>exact⟨k+j,acc ++ [(c:Int)],Hf,Ht,by omega,by rw[zH];simp;omega,e2,Hm⟩
     case measure=>rw[HP.out,kI.out];omega
   . have kz:k=s.size:=by omega
     subst kz;have e2:Hid (L=acc):=by show L=_;rw[Hn.out,List.drop_of_length_le (by rw[Ho.out];exact zA),y9t,List.append_nil]
     obtain⟨a1,a2⟩:=(show Live wr w.heap.size 0 (.int .i64 0) from⟨(H5.cell (p:=⟨w.heap.size,0,none⟩) m0.lt).trans m0.1,(H5.frozen (p:=⟨w.heap.size,0,none⟩) m0.lt).trans m0.2⟩);obtain⟨a3,a4⟩:=(show Live wr w.heap.size 1 (.int .i64 0) from⟨(H5.cell (p:=⟨w.heap.size,1,none⟩) m0.lt).trans m1.1,(H5.frozen (p:=⟨w.heap.size,1,none⟩) m0.lt).trans m1.2⟩)
     go_wp2_with (at_next;refine y10 rfl _ rfl wr r s s.size rfl hI (zA) ?_)
     refine bodyPost_ret (v:=.tuple #[_,.agg #[.int .i64 0,.int .i64 0]]) (by simp[results,results207,go_sem,a1,a2,a3,a4];rfl) rfl ?_;unfold yAm;rw[HR.out];refine⟨_,rfl,?_,?_⟩
     . rw[if_pos rfl,<-HL.out,e2.out]
       exact zd (za H6 fun q hq=>by
        have h1:=(zf H6 q hq).1;have:w.heap.size<w2.heap.size:=m0.lt;rw[Below.heap_setCell _ _ _ _ (by simp;omega),Below.heap_setCell _ _ _ _ (by simp;omega)]) Hh.size
     . exact((Hh.trans (H5.mono Hh.size)).setCell (zA) _).setCell (zA) _
end
section
open Go.Proofs.Tryz
def Scal(p:Int):Prop:=0<=p/\p<=1114111/\(p<55296\/57343<p)
theorem u8n(z:Int)(h0:0<=z)(h1:z<256):(z.toNat.toUInt8).toNat=z.toNat:=by
 show(UInt8.ofNat z.toNat).toNat=_;rw[UInt8.toNat_ofNat'];omega
def encL(l:List Int):List UInt8:=l.flatMap encR
theorem y8x(p:Int)(l:List Int):encL (p::l)=encR p++encL l:=by simp[encL]
end
open Go.RowKit Go.Proofs.Tryz
theorem yGt:textM [233]=([195,169],true):=by decide +kernel
theorem yH6:scanL (bl ⟨#[97,195,97]⟩)=(0,some 1):=by decide +kernel
theorem y2x(w:World)(hT:TW w):Calls prog 128 #[] w fun e w'=>e=.returned (.bool true)/\Below w.heap.size w w':=by
 have k1:=fun w t=>y4J _ [233] _ (row_one w 233 t) (by simp)
 have k2:∀w,TW w->Calls prog 207 #[.string ⟨#[97,195,97]⟩] w fun e w'=>∃v,e=.returned (.tuple #[v,.agg #[.int .i64 2,.int .i64 1]])/\Below w.heap.size w w':=fun w hT=>
  (y6P ⟨#[97,195,97]⟩ w hT (by decide)).mono fun e w' ⟨v,he,ho,hb⟩=>⟨v,by rw[he,yH6];rfl,hb⟩
 have k3:=yAT 2 1 2 1;have k4:=fun op x y w=>y3h op x y #[.int .i64 2,.int .i64 1] #[.int .i64 2,.int .i64 1] w
 rw[yGt]at k1;have K1:=z7 k1;have K2:=z7 k2;clear k1 k2
 go_enter func128,ntmps128
 go_wp2_with (first
  | (go_at_call 206;refine(K1.out _ _).mono ?_;rintro e w1 ⟨rfl,H5⟩)
  | (go_at_call 207;refine(K2.out _ ((hT.alloc _).bel H5)).mono ?_;rintro e w2 ⟨v,rfl,H6⟩))
 go_ret
 exact⟨rfl,bal (bt (bt ((z8).alloc (zA) _) H5) H6) _⟩
theorem yGW:bSignsM 136 98=([195,138,204,132],true):=by decide +kernel
theorem yGZ:bBytesM [202,65]=([136,102],1):=by decide +kernel
theorem yHA(w:World)(p q:Int)(t:TypeId):Row (w.alloc (.cells #[.int .i32 p,.int .i32 q] t)) (.slice (some ⟨w.heap.size,0,none⟩) 2 2) 2 (icells [p,q]):=by
 refine⟨_,_,rfl,fun j y hj=>⟨w.heap.size,0,rfl,?_⟩⟩
 match j,hj with
 | 0,hj=>simp[icells]at hj;subst hj;rw[World.cell?_alloc_new];rfl
 | 1,hj=>simp[icells]at hj;subst hj;rw[World.cell?_alloc_new];rfl
theorem y5l(w:World)(hT:TW w):Calls prog 214 #[] w fun e w'=>e=.returned (.bool true)/\Below w.heap.size w w':=by
 have k1:=fun w=>y6e 136 98 w (by omega) (by omega) (by omega) (by omega)
 have k2:=fun w t hT=>yDJ _ [202,65] _ hT (yHA w 202 65 t) (by simp) (by decide)
 rw[yGW]at k1;rw[yGZ]at k2;have K1:=z7 k1;have K2:=z7 k2;clear k1 k2
 go_enter func214,ntmps214
 go_wp2_with (first
  | (go_at_call 303;refine(K1.out _).mono ?_;rintro e w1 ⟨rfl,H5⟩)
  | (go_at_call 304;refine(K2.out _ _ ((hT.bel H5).alloc _)).mono ?_;rintro e w2 ⟨rfl,H6⟩))
 go_ret
 exact⟨rfl,bt (bal H5 _) H6⟩
