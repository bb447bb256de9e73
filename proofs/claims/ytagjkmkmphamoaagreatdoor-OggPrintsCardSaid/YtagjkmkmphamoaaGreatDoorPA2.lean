/- A2 -/
import Derived.Test.YtagjkmkmphamoaaGreatDoorPBi
import Derived.Test.YtagjkmkmphamoaaGreatDoorPPo
import Derived.Lib.MapLaws
set_option linter.all false
set_option maxHeartbeats 4000000
namespace Go.Proofs.YtagjkmkmphamoaaGreatDoor
open Go.RowKit
theorem jz4:bTwos.length=4:=rfl
theorem kx2(i:Nat)(s:Int×Int×Int)(h:bTwos[i]?=some s):bTwoArr.extract (i*3) (i*3+3)=#[.int .i64 s.1,.int .i32 s.2.1,.int .i32 s.2.2]:=by
 have hi:i<4:=(List.getElem?_eq_some_iff.1 h).1
 match i,hi,h with
 | 0,_,h=>cases h;rfl
 | 1,_,h=>cases h;rfl
 | 2,_,h=>cases h;rfl
 | 3,_,h=>cases h;rfl
theorem vc7:∀s∈bTwos,0≤s.1∧s.1≤255∧0≤s.2.1∧s.2.1≤1000∧0≤s.2.2∧s.2.2≤1000:=by decide
def twosL:List (Int×Int×Int)→Int→Int→List UInt8×Bool
 | [],_,_=>([],false)
 | s::l,lead,second=>if lead=136∧second=s.1 then textM [s.2.1,s.2.2]else twosL l lead second
noncomputable def bSignsM(lead second:Int):List UInt8×Bool:=if(oneM lead second).2=true then textM [(oneM lead second).1]else twosL bTwos lead second
theorem qq5(w:World)(p:Int)(t:TypeId):Row (w.alloc (.cells #[.int .i32 p] t)) (.slice (some ⟨w.heap.size,0,none⟩) 1 1) 1 (icells [p]):=by
 refine⟨_,_,rfl,fun j x hj=>⟨w.heap.size,0,rfl,?_⟩⟩
 match j,hj with
 | 0,hj=>simp[icells]at hj;subst hj;rw[World.cell?_alloc_new];rfl
theorem row_two(w:World)(x:Value)(p q:Int)(t:TypeId):Row (w.alloc (.cells #[x,.int .i32 p,.int .i32 q] t)) (.slice (some ⟨w.heap.size,1,none⟩) 2 2) 2 (icells [p,q]):=by
 refine⟨_,_,rfl,fun j y hj=>⟨w.heap.size,1,rfl,?_⟩⟩
 match j,hj with
 | 0,hj=>simp[icells]at hj;subst hj;rw[World.cell?_alloc_new];rfl
 | 1,hj=>simp[icells]at hj;subst hj;rw[World.cell?_alloc_new];rfl
set_option maxRecDepth 100000 in
theorem kx0(lead second:Int)(w:World)(h0:0≤lead)(h1:lead≤255)(h2:0≤second)(h3:second≤255):
 Calls Tryz.prog 167 #[.int .u8 lead,.int .u8 second] w fun e w'=>e=.returned (.tuple #[.string ⟨(bSignsM lead second).1.toArray⟩,.bool (bSignsM lead second).2])∧Below w.heap.size w w':=by
 have c1:=fun w=>one_any lead second w h0 h1 h2 h3
 have hm:bSignsM lead second=if(oneM lead second).2=true then textM [(oneM lead second).1]else twosL bTwos lead second:=rfl
 generalize oneM lead second=p at *;generalize bSignsM lead second=R at *;obtain⟨p1,p2⟩:=p;simp only at c1 hm;have C1:=Lib.hid c1;by_cases hp:p2=true
 · subst hp
   rw[if_pos rfl]at hm;have HM:=Lib.hid hm;clear c1 hm
   go_enter Tryz.func167,Tryz.ntmps167
   go_wp2_with (first
    | (go_at_call 197;with_reducible refine(C1.out _).mono ?_;rintro e w1 ⟨rfl,hb1⟩)
    | (go_at_call 159;refine(kf7 _ [p1] _ (qq5 _ _ _) (by simp)).mono ?_;rintro e w2 ⟨rfl,hb2⟩))
   go_ret2
   refine⟨by rw[HM.out];rfl,?_⟩;exact bt (bal hb1 _) hb2
 · have hp':p2=false:=by simpa using hp
   subst hp';rw[if_neg (by decide)]at hm;have HM:=Lib.hid hm;clear c1 hm hp
   go_enter Tryz.func167,Tryz.ntmps167
   go_wp2_with (first
    | (go_at_call 197;with_reducible refine(C1.out _).mono ?_;rintro e w1 ⟨rfl,hb1⟩)
    | (go_at_call 198;refine(qn8 _).mono ?_;rintro e W ⟨rfl,hb⟩))
   have hbW:=bt hb1 hb;obtain⟨A,hA⟩:∃A,A=bTwoArr:=⟨_,rfl⟩;rw[←hA];have HA:=Lib.hid hA;clear hA
   go_loopw [25] (fun t wr=>∃i:Nat,t=.int .i64 (i:Int)∧i≤4∧Hid (R=twosL (bTwos.drop i) lead second)∧Below W.heap.size W wr) (fun t _=>(4-intOf t).toNat)
   case atStart=>exact⟨0,rfl,by omega,HM,Below.refl _ _⟩
   case round=>
    obtain⟨i,rfl,hi,hR,hbel⟩:=hrel;have hbw:=hbW.trans (hbel.mono hbW.size);by_cases hlt:i<4
    · obtain⟨s,hs⟩:=jb6 bTwos i (by rw[jz4];exact hlt)
      have hbd:=vc7 s (List.mem_of_getElem? hs);have hx:=kx2 i s hs;rw[←HA.out]at hx;have hr:=hR.out;rw[jd1 bTwos i (List.getElem?_eq_some_iff.1 hs).1,(List.getElem?_eq_some_iff.1 hs).2]at hr;obtain⟨a,b,q⟩:=s;simp only at hbd hx;rw[twosL]at hr;simp only at hr;obtain⟨a0,a1,b0,b1,q0,q1⟩:=hbd;have HX:=Lib.hid hx;have HR:=Lib.hid hr;clear hx hr hs;by_cases ha:lead=136∧second=a
      · obtain⟨rfl,rfl⟩:=ha
        have hr:=HR.out;rw[if_pos ⟨rfl,rfl⟩]at hr;have HR2:=Lib.hid hr;clear hr HR
        go_wp2_with (first
         | (refine jc6 rfl 251 _ _ rfl 4 250 Tryz.underlying251 _ Tryz.underlying250 rfl 3 (by kernel_rfl) A rfl .i64 i rfl (by omega) _ HX.out ?_)
         | (go_at_call 159;refine(kf7 _ [b,q] _ (row_two _ _ _ _ _) (by simp)).mono ?_;rintro e w2 ⟨rfl,hb2⟩))
        go_ret2
        refine⟨by rw[HR2.out];rfl,?_⟩;exact bt (bal hbw _) hb2
      · have hr:=HR.out
        rw[if_neg ha]at hr;have HR2:=Lib.hid hr;clear hr HR;by_cases hl:lead=136
        · subst hl
          have ha':(second==a)=false:=by simpa using ha
          clear ha
          go_wp2_with (refine jc6 rfl 251 _ _ rfl 4 250 Tryz.underlying251 _ Tryz.underlying250 rfl 3 (by kernel_rfl) A rfl .i64 i rfl (by omega) _ HX.out ?_)
          go_roundw
          case rel=>exact⟨i+1,by go_num,by omega,HR2,hbel.alloc hbel.size _⟩
          case measure=>simp[intOf];omega
        · have hl':(lead==136)=false:=by simpa using hl
          clear ha hl
          go_wp2_with (refine jc6 rfl 251 _ _ rfl 4 250 Tryz.underlying251 _ Tryz.underlying250 rfl 3 (by kernel_rfl) A rfl .i64 i rfl (by omega) _ HX.out ?_)
          go_roundw
          case rel=>exact⟨i+1,by go_num,by omega,HR2,hbel.alloc hbel.size _⟩
          case measure=>simp[intOf];omega
    · have hi11:i=4:=by omega
      subst hi11;have hr:=hR.out;rw[List.drop_of_length_le (by rw[jz4];exact Nat.le_refl _),twosL]at hr;have HR2:=Lib.hid hr;clear hr hR
      go_wp2_with fail
      go_ret2
      exact⟨by rw[HR2.out];rfl,hbw⟩
def hexD(n:Nat):UInt8:=[48,49,50,51,52,53,54,55,56,57,65,66,67,68,69,70].getD n 0
def hex5(n:Nat):List UInt8:=[hexD (n/4096),hexD (n/256%16),hexD (n/16%16),hexD (n%16),32]
def findM(l:List UInt8)(p:Int):Int:=if p<0∨65535<p then -1 else if Lib.index l (hex5 p.toNat)<0 then -1 else Lib.index l (hex5 p.toNat)/5
theorem kn3(x:Int)(h₀:0≤x)(h₁:x<2147483648):bits .and .i32 x 15=x%16:=bits_mask .i32 31 (by decide) wraps_i32 4 (by decide) x h₀ h₁
theorem qc4(k:Nat)(hk:k<16):∀h,(⟨#[48,49,50,51,52,53,54,55,56,57,65,66,67,68,69,70]⟩:ByteArray)[k]'h=hexD k:=by
 intro h;have:∀j:Fin 16,∀h,(⟨#[48,49,50,51,52,53,54,55,56,57,65,66,67,68,69,70]⟩:ByteArray)[j.val]'h=hexD j.val:=by decide
 exact this ⟨k,hk⟩ h
theorem qk4(s sub:List UInt8):Lib.index s sub≤s.length:=by
 induction s with
 | nil=>simp only[Lib.index];split<;>simp
 | cons b l ih=>
  simp only[Lib.index];split
  · simp;omega
  · split
    · simp;omega
    · simp only[List.length_cons];omega
set_option maxRecDepth 100000 in
theorem find_any(s:ByteArray)(p:Int)(w:World)(hT:TW w)(hs:s.size≤100000)(h0 : -2147483648≤p)(h1:p≤2147483647):
 Calls Tryz.prog 201 #[.string s,.int .i32 p] w fun e w'=>e=.returned (.int .i64 (findM (bl s) p))∧Below w.heap.size w w':=by
 by_cases hp:p<0∨65535<p
 · have hm:findM (bl s) p = -1:=by unfold findM;rw[if_pos hp]
   rw[hm];clear hm;rcases hp with hp|hp
   · go_enter Tryz.func201,Tryz.ntmps201
     go_wp2_with fail
     go_ret
     exact⟨rfl,Below.refl _ _⟩
   · go_enter Tryz.func201,Tryz.ntmps201
     go_wp2_with fail
     go_ret
     exact⟨rfl,Below.refl _ _⟩
 · obtain⟨n,rfl⟩:=Int.eq_ofNat_of_zero_le (show 0≤p from by omega)
   have hn:n<65536:=by omega
   have hM:findM (bl s) n=if Lib.index (bl s) (hex5 n)<0 then -1 else Lib.index (bl s) (hex5 n)/5:=by
    unfold findM;rw[if_neg hp,Int.toNat_natCast]
   have hle:=qk4 (bl s) (hex5 n);rw[jb1]at hle;generalize findM (bl s) n=R at *;have HM0:=Lib.hid hM;have HLE:=Lib.hid hle;clear hM hle;have e1:bits .and .i32 ((n:Int)/256) 15=(n:Int)/256%16:=kn3 _ (by omega) (by omega);have e2:bits .and .i32 ((n:Int)/16) 15=(n:Int)/16%16:=kn3 _ (by omega) (by omega);have e3:bits .and .i32 (n:Int) 15=(n:Int)%16:=kn3 _ (by omega) (by omega);have x0:=qc4 (n/4096) (by omega);have x1:=qc4 (n/256%16) (by omega);have x2:=qc4 (n/16%16) (by omega);have x3:=qc4 (n%16) (by omega);have t0:((n:Int)/4096).toNat=n/4096:=by omega
   have t1:((n:Int)/256%16).toNat=n/256%16:=by omega
   have t2:((n:Int)/16%16).toNat=n/16%16:=by omega
   have t3:((n:Int)%16).toNat=n%16:=by omega
   have y0:(0:Int)≤(n:Int)/4096∧(n:Int)/4096<16:=by omega
   have y1:(0:Int)≤(n:Int)/256%16∧(n:Int)/256%16<16:=by omega
   have y2:(0:Int)≤(n:Int)/16%16∧(n:Int)/16%16<16:=by omega
   have y3:(0:Int)≤(n:Int)%16∧(n:Int)%16<16:=by omega
   go_enter Tryz.func201,Tryz.ntmps201
   go_wp2_with fail
   go_region
   have hO:Own (w.alloc (.cells #[.int .u8 ((hexD (n/4096)).toNat:Int),.int .u8 ((hexD (n/256%16)).toNat:Int),.int .u8 ((hexD (n/16%16)).toNat:Int),.int .u8 ((hexD (n%16)).toNat:Int),.int .u8 32] 5))
    w.heap.size (.slice (some ⟨w.heap.size,0,none⟩) 5 5) (hex5 n):=
    ⟨rfl,.inr ⟨w.heap.size,5,_,rfl,Nat.le_refl _,heap_alloc_new _ _,Nat.le_refl _,by decide,rfl,rfl⟩⟩
   have hcv:=jq6 hO.drew;have hTW:=(hT.alloc (.cells #[.int .u8 ((hexD (n/4096)).toNat:Int),.int .u8 ((hexD (n/256%16)).toNat:Int),.int .u8 ((hexD (n/16%16)).toNat:Int),.int .u8 ((hexD (n%16)).toNat:Int),.int .u8 32] 5));have hbel:Below w.heap.size w (w.alloc (.cells #[.int .u8 ((hexD (n/4096)).toNat:Int),.int .u8 ((hexD (n/256%16)).toNat:Int),.int .u8 ((hexD (n/16%16)).toNat:Int),.int .u8 ((hexD (n%16)).toNat:Int),.int .u8 32] 5)):=(Below.refl _ _).alloc (Nat.le_refl _) _;clear hO x0 x1 x2 x3 t0 t1 t2 t3 y0 y1 y2 y3 e1 e2 e3 hT;generalize w.alloc (.cells #[.int .u8 ((hexD (n/4096)).toNat:Int),.int .u8 ((hexD (n/256%16)).toNat:Int),.int .u8 ((hexD (n/16%16)).toNat:Int),.int .u8 ((hexD (n%16)).toNat:Int),.int .u8 32] 5)=W at *;obtain⟨m,hm⟩:=hTW.ml;have c1:=fun w hm=>Tryz.strings_Index s ⟨(hex5 n).toArray⟩ m w (by omega) hm
   have hM:=HM0.out;have hle:=HLE.out;have c1':∀w,w.cell? ⟨2,0,none⟩=some (.int .i64 m)→Calls Tryz.prog 225 #[.string s,.string ⟨(hex5 n).toArray⟩] w fun e w'=>e=.returned (.int .i64 (Lib.index (bl s) (hex5 n)))∧w'=w:=c1
   clear c1 hp HM0 HLE;generalize Lib.index (bl s) (hex5 n)=i at *;have C1:=Lib.hid c1';have HM:=Lib.hid hM;have HW:=Lib.hid hTW;clear c1' hM hTW;by_cases hi:i<0
   · have hM:=HM.out
     rw[if_pos hi]at hM;have HR:=Lib.hid hM;clear hM HM
     go_wp2_with (go_at_call 225;refine(C1.out W.drew hm).mono ?_;rintro e w1 ⟨rfl,rfl⟩)
     go_ret
     exact⟨by rw[HR.out];rfl,hbel.drew⟩
   · have hM:=HM.out
     rw[if_neg hi]at hM;have HR:=Lib.hid hM;clear hM HM;obtain⟨j,rfl⟩:=Int.eq_ofNat_of_zero_le (show 0≤i from by omega)
     go_wp2_with (go_at_call 225;refine(C1.out W.drew hm).mono ?_;rintro e w1 ⟨rfl,rfl⟩)
     go_ret
     exact⟨by rw[HR.out];rfl,hbel.drew⟩
theorem bStr_fit:∀i:Fin 11,(bStr i.val).size/5 ≤ [135,122,120,104,94,91,89,157,157,157,157].getD i.val 0:=by decide +kernel
theorem qp1(S:Nat→ByteArray)(k:∀i,i<11→(S i).size/5 ≤ [135,122,120,104,94,91,89,157,157,157,157].getD i 0)(s:Int×Int×ByteArray)(h:s∈bSpansOf S):
 0≤b5cell s.2.1∧b5cell s.2.1+(s.2.2.size/5:Nat)≤157:=by
 simp only[bSpansOf,List.mem_cons,List.not_mem_nil,or_false]at h;rcases h with h|h|h|h|h|h|h|h|h|h|h
 · subst h;have:=k 0 (by omega);simp[b5cell]at this ⊢;omega
 · subst h;have:=k 1 (by omega);simp[b5cell]at this ⊢;omega
 · subst h;have:=k 2 (by omega);simp[b5cell]at this ⊢;omega
 · subst h;have:=k 3 (by omega);simp[b5cell]at this ⊢;omega
 · subst h;have:=k 4 (by omega);simp[b5cell]at this ⊢;omega
 · subst h;have:=k 5 (by omega);simp[b5cell]at this ⊢;omega
 · subst h;have:=k 6 (by omega);simp[b5cell]at this ⊢;omega
 · subst h;have:=k 7 (by omega);simp[b5cell]at this ⊢;omega
 · subst h;have:=k 8 (by omega);simp[b5cell]at this ⊢;omega
 · subst h;have:=k 9 (by omega);simp[b5cell]at this ⊢;omega
 · subst h;have:=k 10 (by omega);simp[b5cell]at this ⊢;omega
theorem vn9(s:Int×Int×ByteArray)(h:s∈bSpans):0≤b5cell s.2.1∧b5cell s.2.1+(s.2.2.size/5:Nat)≤157:=
 qp1 bStr (fun i hi=>bStr_fit ⟨i,hi⟩) s h
theorem findM_bd(s:ByteArray)(p:Int) : -1≤findM (bl s) p∧findM (bl s) p≤(s.size/5:Nat):=by
 have h:=qk4 (bl s) (hex5 p.toNat);rw[jb1]at h;unfold findM
 repeat' split
 all_goals omega
def bfindL:List (Int×Int×ByteArray)→Int→List UInt8×Int
 | [],_=>([],0)
 | s::l,a=>if 0≤findM (bl s.2.2) a then(bigL (s.1*256+bsecond (b5cell s.2.1+findM (bl s.2.2) a)) 2,1)else bfindL l a
def btwoL:List (Int×Int×Int)→Int→Option Int→Option Int
 | [],_,_=>none
 | t::l,a,b=>if a=t.2.1∧b=some t.2.2 then some t.1 else btwoL l a b
noncomputable def bBytesM:List Int→List UInt8×Int
 | []=>([],0)
 | a::r=>match btwoL bTwos a r.head? with
  | some c=>(bigL (136*256+c) 2,2)
  | none=>bfindL bSpans a
set_option maxRecDepth 100000 in
theorem vn6(v:Value)(l:List Int)(w:World)(hT:TW w)(hrow:Row w v l.length (icells l))(hl:l.length≤1073741824)(hbd:∀x∈l,-2147483648≤x∧x≤2147483647):
 Calls Tryz.prog 168 #[v] w fun e w'=>e=.returned (.tuple #[.string ⟨(bBytesM l).1.toArray⟩,.int .i64 (bBytesM l).2])∧Below w.heap.size w w':=by
 obtain⟨av,cap,rfl,hc⟩:=hrow;cases l with
 | nil=>
  go_enter Tryz.func168,Tryz.ntmps168
  go_wp2_with fail
  go_ret2
  exact⟨rfl,Below.refl _ _⟩
 | cons a r=>
  obtain⟨g,o,rfl,ha⟩:=hc 0 (.int .i32 a) rfl;rw[Nat.add_zero]at ha;obtain⟨a0,a1⟩:=hbd a (by simp);have hm:bBytesM (a::r)=match btwoL bTwos a r.head? with|some c=>(bigL (136*256+c) 2,2)|none=>bfindL bSpans a:=rfl
  generalize bBytesM (a::r)=R at *;have hr2:(r = []∧(a::r).length=1)∨∃b,r.head?=some b∧2≤(a::r).length∧w.cell? ⟨g,o+1,none⟩=some (.int .i32 b):=by
   cases r with
   | nil=>exact .inl ⟨rfl,rfl⟩
   | cons b r=>
    refine .inr ⟨b,rfl,by simp,?_⟩;obtain⟨g',o',e,h⟩:=hc 1 (.int .i32 b) rfl;simp only[Option.some.injEq,Addr.mk.injEq]at e;obtain⟨rfl,rfl,_⟩:=e;exact h
  generalize (a::r).length=n at *;have HM:=Lib.hid hm;have HR2:=Lib.hid hr2;have HT:=Lib.hid hT;clear hm hr2 hc hbd hT;obtain⟨hn1⟩:Nonempty (1≤n):=by rcases HR2.out with⟨_,h⟩|⟨_,_,h,_⟩<;>exact⟨by omega⟩
  have hne:((n:Int)==0)=false:=by simp;omega
  go_enter Tryz.func168,Tryz.ntmps168
  go_wp2_with (go_at_call 198;refine(qn8 _).mono ?_;rintro e W ⟨rfl,hb⟩)
  obtain⟨A,hA⟩:∃A,A=bTwoArr:=⟨_,rfl⟩;rw[←hA];have HA:=Lib.hid hA;clear hA
  go_loopw [13] (fun t wr=>∃i:Nat,t=.int .i64 (i:Int)∧i≤4∧Hid (btwoL bTwos a r.head?=btwoL (bTwos.drop i) a r.head?)∧Below W.heap.size W wr) (fun t _=>(4-intOf t).toNat)
  case atStart=>exact⟨0,rfl,by omega,rfl,Below.refl _ _⟩
  case round=>
   obtain⟨i,rfl,hi,hR,hbel⟩:=hrel;have hbw:=hb.trans (hbel.mono hb.size);have ha':=kc hbw ha;have haX:∀X,(wr.alloc X).cell? ⟨g,o,none⟩=some (.int .i32 a):=fun X=>kc ((Below.refl _ _).alloc (Nat.le_refl _) X) ha'
   by_cases hlt:i<4
   · obtain⟨s,hs⟩:=jb6 bTwos i (by rw[jz4];exact hlt)
     have hbd:=vc7 s (List.mem_of_getElem? hs);have hx:=kx2 i s hs;rw[←HA.out]at hx;have hr:=hR.out;rw[jd1 bTwos i (List.getElem?_eq_some_iff.1 hs).1,(List.getElem?_eq_some_iff.1 hs).2]at hr;obtain⟨c,x,y⟩:=s;simp only at hbd hx;rw[show btwoL ((c,x,y)::bTwos.drop (i+1)) a r.head?=if a=x∧r.head?=some y then some c else btwoL (bTwos.drop (i+1)) a r.head? from rfl]at hr;obtain⟨c0,c1,x0,x1,y0,y1⟩:=hbd;have HX:=Lib.hid hx;have HR:=Lib.hid hr;clear hx hr hs hR;rcases HR2.out with⟨hr0,hn0⟩|⟨b,hb2,hn2,hcb⟩
     · have hr:=HR.out
       rw[if_neg (by rw[hr0];simp)]at hr;have HN:=Lib.hid hr;have hdec:decide ((1:Int)<(n:Int))=false:=by rw[decide_eq_false_iff_not];omega
       clear hr HR hr0 hn0
       go_wp2_with (refine jc6 rfl 251 _ _ rfl 4 250 Tryz.underlying251 _ Tryz.underlying250 rfl 3 (by kernel_rfl) A rfl .i64 i rfl (by omega) _ HX.out ?_)
       go_quiet (fail)
       go_wp2_with fail
       go_roundw
       case rel=>exact⟨i+1,by go_num,by omega,HN,bdnB (hbel.alloc hbel.size _) _⟩
       case measure=>simp[intOf];omega
     · have hcb':=kc hbw hcb
       have hcbX:∀X,(wr.alloc X).cell? ⟨g,o+1,none⟩=some (.int .i32 b):=fun X=>kc ((Below.refl _ _).alloc (Nat.le_refl _) X) hcb'
       have h1n:(1:Int)<n:=by omega
       have p0:0<n:=by omega
       have p1:1<n:=by omega
       have p0':(0:Int)<n:=by omega
       have HB:=Lib.hid hb2;clear hb2 hcb;by_cases hax:a=x
       · subst hax
         by_cases hby:b=y
         · subst hby
           have hr:=HR.out;rw[if_pos ⟨rfl,HB.out⟩]at hr;have hm:=HM.out;rw[hr]at hm;have HF:=Lib.hid hm;have c1:=fun w=>qn9 136 c w (by omega) (by omega) (by omega) (by omega)
           have C1:=Lib.hid c1;clear hr hm c1 HR HM
           go_wp2_with (refine jc6 rfl 251 _ _ rfl 4 250 Tryz.underlying251 _ Tryz.underlying250 rfl 3 (by kernel_rfl) A rfl .i64 i rfl (by omega) _ HX.out ?_)
           go_quiet (fail)
           go_wp2_with (go_at_call 199;refine(C1.out _).mono ?_;rintro e w1 ⟨rfl,hb1⟩)
           go_ret2
           refine⟨by rw[HF.out];rfl,?_⟩;exact bt (bdnB (hbw.alloc (by have:=hbw.size;omega) _) _) hb1
         · have hr:=HR.out
           rw[if_neg (by rw[HB.out];simp[hby])]at hr;have HN:=Lib.hid hr;have hby':(b==y)=false:=by simpa using hby
           clear hr HR hby
           go_wp2_with (refine jc6 rfl 251 _ _ rfl 4 250 Tryz.underlying251 _ Tryz.underlying250 rfl 3 (by kernel_rfl) A rfl .i64 i rfl (by omega) _ HX.out ?_)
           go_quiet (fail)
           go_wp2_with fail
           go_roundw
           case rel=>exact⟨i+1,by go_num,by omega,HN,bdnB (hbel.alloc hbel.size _) _⟩
           case measure=>simp[intOf];omega
       · have hr:=HR.out
         rw[if_neg (by simp[hax])]at hr;have HN:=Lib.hid hr;have hax':(a==x)=false:=by simpa using hax
         clear hr HR hax
         go_wp2_with (refine jc6 rfl 251 _ _ rfl 4 250 Tryz.underlying251 _ Tryz.underlying250 rfl 3 (by kernel_rfl) A rfl .i64 i rfl (by omega) _ HX.out ?_)
         go_quiet (fail)
         go_wp2_with fail
         go_roundw
         case rel=>exact⟨i+1,by go_num,by omega,HN,bdnB (hbel.alloc hbel.size _) _⟩
         case measure=>simp[intOf];omega
   · have hi4:i=4:=by omega
     subst hi4;have hr:=hR.out;rw[List.drop_of_length_le (by rw[jz4];exact Nat.le_refl _),btwoL]at hr;have hm:=HM.out;rw[hr]at hm;have HF:Hid (R=bfindL bSpans a):=hm;clear hr hR hm HM HR2 HA
     go_wp2_with (go_at_call 200;refine(kw9 _).mono ?_;rintro e V ⟨rfl,hbV⟩)
     have hbV':=hbw.trans (hbV.mono hbw.size);have haV:=kc hbV ha';clear ha' haX;obtain⟨A2,hA2⟩:∃A2,A2=bSpanArr bStr:=⟨_,rfl⟩;rw[←hA2];have HA2:=Lib.hid hA2;clear hA2
     go_loopw [42] (fun t wq=>∃i:Nat,t=.int .i64 (i:Int)∧i≤11∧Hid (R=bfindL (bSpans.drop i) a)∧Below V.heap.size V wq) (fun t _=>(11-intOf t).toNat)
     case atStart=>exact⟨0,rfl,by omega,HF,Below.refl _ _⟩
     case round=>
      obtain⟨i,rfl,hi,hR,hbel⟩:=hrel;have hbq:=hbV'.trans (hbel.mono hbV'.size);have haq:=kc hbel haV;have haX:∀X,(wr.alloc X).cell? ⟨g,o,none⟩=some (.int .i32 a):=fun X=>kc ((Below.refl _ _).alloc (Nat.le_refl _) X) haq
      have p0:0<n:=by omega
      have p0':(0:Int)<n:=by omega
      by_cases hlt:i<11
      · obtain⟨s,hs⟩:=jb6 bSpans i (by rw[jv4];exact hlt)
        obtain⟨hbd,hH⟩:=qp0 s (List.mem_of_getElem? hs);obtain⟨hf0,hf1⟩:=vn9 s (List.mem_of_getElem? hs);have hx:=kp7 bStr i s hs;rw[←HA2.out]at hx;have hr:=hR.out;rw[jd1 bSpans i (List.getElem?_eq_some_iff.1 hs).1,(List.getElem?_eq_some_iff.1 hs).2]at hr;obtain⟨c,d,q⟩:=s;simp only at hbd hH hx hf0 hf1;rw[show bfindL ((c,d,q)::bSpans.drop (i+1)) a=if 0≤findM (bl q) a then(bigL (c*256+bsecond (b5cell d+findM (bl q) a)) 2,1)else bfindL (bSpans.drop (i+1)) a from rfl]at hr;obtain⟨c0,c1,d0,d1,q1⟩:=hbd;obtain⟨k0,k1⟩:=findM_bd q a;have x1:=fun w hT=>find_any q a w hT (by omega) a0 a1
        have x2:=fun w=>kd1 d w (by omega) (by omega)
        generalize findM (bl q) a=k at *;generalize b5cell d=e at *;have hk157:e+k≤157:=by omega
        have x3:=fun w (hk:0≤k)=>qv7 (e+k) w (by omega) (by omega)
        have hs2:0≤k→0≤bsecond (e+k)∧bsecond (e+k)≤255:=by intro h;unfold bsecond;split<;>omega
        generalize bsecond (e+k)=z at *;have X1:=Lib.hid x1;have X2:=Lib.hid x2;have X3:=Lib.hid x3;have HX:=Lib.hid hx;have HR:=Lib.hid hr;clear x1 x2 x3 hx hr hs hH hR;have hgX:∀X (x:Grown (wr.alloc X)),x.wd.cell? ⟨g,o,none⟩=some (.int .i32 a):=fun X x=>x.cell (haX X)
        have hTX:∀X (x:Grown (wr.alloc X)),TW x.wd:=fun X x=>((HT.out.below hbq HT.out.sz).alloc X).bel x.bel
        have hgn:=fun c t (x:Grown (wr.alloc (.cells c t))) i=>x.cell_new i
        go_wp2_with (refine jc6 rfl 256 _ _ rfl 11 255 Tryz.underlying256 _ Tryz.underlying255 rfl 3 (by kernel_rfl) A2 rfl .i64 i rfl (by omega) _ HX.out ?_)
        refine wp_region_grown (by kernel_rfl) (by kernel_rfl) ?_
        repeat (first|go_big_quiet_step ((go_at_call 201;exact Calls.grown_of (X1.out _ (hTX _ _))))|quiet_step ((go_at_call 201;exact Calls.grown_of (X1.out _ (hTX _ _)))))
        refine wpQuiet_nil ?_;intro _ hw';obtain⟨xg,rfl⟩:=hw';have hbx:=xg.bel;have v0:xg.wd.cell? ⟨wr.heap.size,0,none⟩=some (.int .i64 c):=hgn _ _ xg 0;have v1:xg.wd.cell? ⟨wr.heap.size,1,none⟩=some (.int .i64 d):=hgn _ _ xg 1;have hb1:Below w.heap.size w xg.wd:=bt (bal hbq _) hbx;have hb2:Below V.heap.size V xg.wd:=bt (bal hbel _) hbx;clear hgn hgX hTX haX hbx;generalize xg.wd=V1 at *;clear xg;have g0:=fun x:Grown V1=>x.cell v0
        have g1:=fun x:Grown V1=>x.cell v1
        by_cases hk:0≤k
        · have hr:=HR.out
          rw[if_pos hk]at hr;obtain⟨z0,z1⟩:=hs2 hk;have x4:=fun w=>qn9 c z w (by omega) (by omega) (by omega) (by omega)
          have HR2:=Lib.hid hr;have X4:=Lib.hid x4;clear hr x4;clear HR hs2;have hw1:IntKind.i64.wrap (e+k)=e+k:=by rw[jf2];omega;omega
          go_wp2_with fail
          refine wp_region_grown (by kernel_rfl) (by kernel_rfl) ?_
          repeat (first|go_big_quiet_step ((first|(go_at_call 203;with_reducible exact Calls.grown_of_same (X2.out _))|(go_at_call 202;with_reducible exact Calls.grown_of_same (X3.out _ hk))|(go_at_call 199;with_reducible exact Calls.grown_of (X4.out _))))|quiet_step ((first|(go_at_call 203;with_reducible exact Calls.grown_of_same (X2.out _))|(go_at_call 202;with_reducible exact Calls.grown_of_same (X3.out _ hk))|(go_at_call 199;with_reducible exact Calls.grown_of (X4.out _)))))
          refine wpQuiet_nil ?_;intro _ hw';obtain⟨xg,rfl⟩:=hw';have hbx:=xg.bel
          go_wp2_with fail
          go_ret2
          exact⟨by rw[HR2.out];rfl,bt hb1 hbx⟩
        · have hr:=HR.out
          rw[if_neg hk]at hr;have HR2:=Lib.hid hr;clear hr;clear HR hs2
          go_wp2_with fail
          go_roundw
          case rel=>exact⟨i+1,by go_num,by omega,HR2,hb2⟩
          case measure=>simp[intOf];omega
      · have hi11:i=11:=by omega
        subst hi11;have hr:=hR.out;rw[List.drop_of_length_le (by rw[jv4];exact Nat.le_refl _),bfindL]at hr;have HR2:=Lib.hid hr;clear hr hR
        go_wp2_with fail
        go_ret2
        exact⟨by rw[HR2.out];rfl,hbq⟩
theorem qc1:(Tryz.prog.info? 21).map (fun i=>(i.zero,i.size,i.bytes))=some (some (.int .i32 0),1,4):=by kernel_rfl
def OwnI(w:World)(B:Nat)(v:Value)(l:List Int):Prop:=w.ownsRow B 21 1 v l.length (icells l)
theorem OwnI.row{w:World}{B:Nat}{v:Value}{l:List Int}(h:OwnI w B v l):Row w v l.length (icells l):=jc2 h
theorem OwnI.bel{w w':World}{B:Nat}{v:Value}{l:List Int}(h:OwnI w B v l)(hb:Below w.heap.size w w'):OwnI w' B v l:=jb2 h hb
def ptsF:Nat→List UInt8→List Int
 | 0,_=>[]
 | f+1,l=>if l = []then []else((dec l).1:Int)::ptsF f (l.drop (dec l).2)
def pts(l:List UInt8):List Int:=ptsF l.length l
theorem vv1:∀(f g:Nat) (l:List UInt8),l.length≤f→l.length≤g→ptsF f l=ptsF g l:=by
 intro f
 induction f with
 | zero=>
  intro g l hf hg;have:l = []:=List.eq_nil_of_length_eq_zero (by omega);subst this;cases g<;>simp[ptsF]
 | succ f ih=>
  intro g l hf hg;cases g with
  | zero=>
   have:l = []:=List.eq_nil_of_length_eq_zero (by omega);subst this;simp[ptsF]
  | succ g=>
   simp only[ptsF];split
   · rfl
   · have:=jg2 l
     rw[ih g _ (by rw[List.length_drop];omega) (by rw[List.length_drop];omega)]
theorem kz6:pts [] = []:=rfl
theorem kg3(l:List UInt8)(h:l ≠ []):pts l=((dec l).1:Int)::pts (l.drop (dec l).2):=by
 have hp:=List.length_pos_iff.2 h;unfold pts;obtain⟨n,hn⟩:∃n,l.length=n+1:=⟨l.length-1,by omega⟩;have:=jg2 l;rw[hn,ptsF,if_neg h,vv1 n ((l.drop (dec l).2).length) _ (by rw[List.length_drop];omega) (Nat.le_refl _)]
theorem vs7:∀(f:Nat) (l:List UInt8) (at_ n m:Nat),l.length≤f→scanF f l at_ n=(m,none)→m=n+(ptsF f l).length:=by
 intro f
 induction f with
 | zero=>intro l at_ n m h hs;simp[scanF]at hs;simp[ptsF,hs]
 | succ f ih=>
  intro l at_ n m h hs;simp only[scanF]at hs;simp only[ptsF];split at hs
  · rename_i hl;simp at hs;simp[hl,hs]
  · rename_i hl
    rw[if_neg hl];split at hs
    · simp at hs
    · have:=jg2 l
      have:=ih _ _ _ _ (by rw[List.length_drop];omega) hs;simp only[List.length_cons];omega
theorem jn0(l:List UInt8)(m:Nat)(h:scanL l=(m,none)):m=(pts l).length:=by
 have:=vs7 l.length l 0 0 m (Nat.le_refl _) h;unfold pts;omega
theorem qz1:∀(f:Nat) (l:List UInt8) (at_ n:Nat),(scanF f l at_ n).1≤n+l.length:=by
 intro f
 induction f with
 | zero=>intro l at_ n;simp[scanF]
 | succ f ih=>
  intro l at_ n;simp only[scanF];split
  · simp
  · rename_i hl
    split
    · simp
    · have:=ih (l.drop (dec l).2) (at_+(dec l).2) (n+1)
      have:=jg2 l;have:=jz3 l hl;rw[List.length_drop]at *;omega
theorem qn3(s:ByteArray)(w:World)(hT:TW w)(hs:s.size≤9223372036854775807):
 Calls Tryz.prog 183 #[.string s] w fun e w'=>e=.returned (.int .i64 (scanL (bl s)).1)∧Below w.heap.size w w':=by
 have k1:=fun w hT=>kz1 s w hT hs
 obtain⟨a,b,hab⟩:=jp2 (scanL (bl s)).2;rw[hab]at k1;generalize (scanL (bl s)).1=n at *;clear hab;have K1:=Lib.hid k1;clear k1
 go_enter Tryz.func183,Tryz.ntmps183
 go_wp2_with (go_at_call 152;refine(K1.out _ hT).mono ?_;rintro e w1 ⟨rfl,hb1⟩)
 go_ret
 exact⟨rfl,by first|exact hb1|exact hb1.trans ((Below.refl _ _).alloc hb1.size _)⟩
def PtsPost(l:List UInt8)(B:Nat)(w:World)(e:Ending)(w':World):Prop:=
 ∃v,e=.returned (.tuple #[v,faultV (scanL l).2])∧OwnI w' B v (if(scanL l).2=none then pts l else [])∧Below w.heap.size w w'
theorem ks7(s:ByteArray)(w:World)(hT:TW w)(hs:s.size≤1073741824):
 Calls Tryz.prog 160 #[.string s] w (PtsPost (bl s) w.heap.size w):=by
 have k1:=fun w hT=>kz1 s w hT (by omega)
 have l0:=Live.fresh w #[.int .i64 0,.int .i64 0] 54 0 _ rfl;have l1:=Live.fresh w #[.int .i64 0,.int .i64 0] 54 1 _ rfl;have k2:=fun a b w=>jb8 a b w
 rcases hR:scanL (bl s)with⟨n,o⟩
 rw[hR]at k1;simp only at k1;have K1:=Lib.hid k1;have K2:=Lib.hid k2;have HR:=Lib.hid hR;clear k1 k2 hR;cases o with
 | some k=>
  simp only[faultV]at K1
  go_enter Tryz.func160,Tryz.ntmps160
  go_wp2_with (first
   | (go_at_call 152;refine(K1.out _ (hT.alloc _)).mono ?_;rintro e w1 ⟨rfl,hb1⟩;obtain⟨a1,a2⟩:=l0.keep hb1;obtain⟨a3,a4⟩:=l1.keep hb1;have hsz:=(Live.keep l0 hb1).lt)
   | (go_at_call 16;refine(K2.out _ _ _).mono ?_;rintro e w2 ⟨rfl,hb2⟩))
  have q0:=(Live.fresh w1 #[.int .i64 2,.int .i64 k] 54 0 _ rfl).keep hb2;have q1:=(Live.fresh w1 #[.int .i64 2,.int .i64 k] 54 1 _ rfl).keep hb2;have m0:=((l0.keep hb1).alloc (.cells #[.int .i64 2,.int .i64 k] 54)).keep hb2;have m1:=((l1.keep hb1).alloc (.cells #[.int .i64 2,.int .i64 k] 54)).keep hb2;have hbw:Below w.heap.size w w2:=bt (bal (bt ((Below.refl _ _).alloc (Nat.le_refl _) _) hb1) _) hb2;clear hb2 hb1 l0 l1 a1 a2 a3 a4 hsz;have g0:=fun x:Grown w2=>x.cell q0.1
  have g1:=fun x:Grown w2=>x.cell q1.1
  refine wp_region_grown_tail 2 (by kernel_rfl) (by kernel_rfl) ?_;simp only[List.take_succ_cons,List.take_zero,List.drop_succ_cons,List.drop_zero]
  repeat (first|go_big_quiet_step (fail)|quiet_step (fail))
  refine wpQuiet_nil ?_;intro _ hw';obtain⟨xg,rfl⟩:=hw';obtain⟨a1,a2⟩:=m0.keep xg.bel;obtain⟨a3,a4⟩:=m1.keep xg.bel;have hbx:=bt hbw xg.bel;clear g0 g1;generalize xg.wd=W at *
  go_wp2_with fail
  refine bodyPost_ret (v:=.tuple #[.slice none 0 0,.agg #[.int .i64 2,.int .i64 k]]) (by simp[results,Tryz.results160,go_sem,a1,a2,a3,a4]) rfl ?_;unfold PtsPost;rw[HR.out];refine⟨_,rfl,World.ownsRow_nil _ _ _ _,?_⟩;exact(hbx.setCell (Nat.le_refl _) _).setCell (Nat.le_refl _) _
 | none=>
  have hn:n≤s.size:=by
   have:=qz1 (bl s).length (bl s) 0 0;have e:=HR.out;unfold scanL at e;rw[e,jb1]at this;simpa using this
  have hnl:n=(pts (bl s)).length:=jn0 _ _ HR.out;obtain⟨i0,hi,hz0,hz1,hz2⟩:=info_parts qc1;obtain⟨L,hL⟩:∃L,L=pts (bl s):=⟨_,rfl⟩;have HLs:Hid ((bl s).length=s.size):=jb1 s;rw[←hL]at hnl;have HN:=Lib.hid hnl;have HL:=Lib.hid hL;clear hnl hL;simp only[faultV]at K1
  go_enter Tryz.func160,Tryz.ntmps160
  go_wp2_with (first
   | (go_at_call 152;refine(K1.out _ (hT.alloc _)).mono ?_;rintro e w1 ⟨rfl,hb1⟩;obtain⟨a1,a2⟩:=l0.keep hb1;obtain⟨a3,a4⟩:=l1.keep hb1;have hsz:=(Live.keep l0 hb1).lt)
   | (go_at_call 16;refine(K2.out _ _ _).mono ?_;rintro e w2 ⟨rfl,hb2⟩)
   | (refine wpList_make_own _ rfl _ _ 105 rfl _ 21 i0 (.int .i32 0) 1 Tryz.underlying105 hi hz0 hz1 .i64 .i64 (n:Int) n rfl rfl rfl (by rw[hz2];omega) (by unfold maxLen;omega) (Nat.le_refl _) ?_;intro W hown hgrow))
  have m0:=((l0.keep hb1).alloc (.cells #[.int .i64 0,.int .i64 0] 54)).keep hb2;have m1:=((l1.keep hb1).alloc (.cells #[.int .i64 0,.int .i64 0] 54)).keep hb2;have hbw:Below w.heap.size w w2:=bt (bal (bt ((Below.refl _ _).alloc (Nat.le_refl _) _) hb1) _) hb2;have hbel:Below w2.heap.size w2 W:=(Below.refl _ _).grown hgrow (Nat.le_refl _) (by intro k hk;cases hk);have hown:OwnI W w2.heap.size (.slice (some ⟨w2.heap.size,0,none⟩) 0 n) []:=hown;have hI0:=ItS.made W s;have hB0:Below w2.heap.size w2 (W.iter s 0):=hbel.alloc hbel.size _;have hown0:OwnI (W.iter s 0) w2.heap.size (.slice (some ⟨w2.heap.size,0,none⟩) 0 n) []:=jb2 hown ((Below.refl _ _).alloc (Nat.le_refl _) _);have hW2:w2.heap.size≤W.heap.size:=hbel.size;clear hb2 hb1 l0 l1 a1 a2 a3 a4 hsz hgrow hbel hown;generalize W.iter s 0=W0 at *;generalize W.heap.size=r at *
  go_loopw [6] (fun v wr=>∃(k:Nat) (acc:List Int),OwnI wr w2.heap.size v acc∧ItS wr r s k∧k≤s.size∧acc.length≤k∧Hid (L=acc++pts ((bl s).drop k))∧Below w2.heap.size w2 wr) (fun _ wr=>s.size-wr.iterPos r)
  case atStart=>exact⟨0,[],hown0,hI0,Nat.zero_le _,Nat.le_refl _,by show L=_;rw[HL.out];rfl,hB0⟩
  case round=>
   obtain⟨k,acc,hown,hI,hk,hacc,hLk,hbel⟩:=hrel;have hne:=hI.ne hown;have hpos:=hI.pos;have hown3:∀w':World,(∀j,j≠r→w'.heap[j]?=wr.heap[j]?)→w'.ownsRow w2.heap.size 21 1 _ acc.length (icells acc):=fun w' h=>jb5 hown (fun q hq=>h q (fun e=>hne (by rw[hq,e])))
   have HP:=Lib.hid hpos;have HNE:=Lib.hid hne;have HO3:=Lib.hid hown3;clear hpos hne hown3;clear hI0 hB0 hown0;by_cases hlt:k<s.size
   · rcases hd:dec ((bl s).drop k)with⟨c,j⟩
     have hdp:=jg2 ((bl s).drop k);have hdr:=jz2 ((bl s).drop k);have hne2:(bl s).drop k ≠ []:=by
      intro e;have:=congrArg List.length e;rw[List.length_drop,HLs.out]at this;simp at this;omega
     have hdl:=jz3 _ hne2;have e1:=kg3 _ hne2;rw[List.length_drop,HLs.out]at hdl;rw[hd]at hdp hdr hdl e1;simp only at hdp hdr hdl e1;rw[List.drop_drop]at e1;have e2:Hid (L=(acc ++ [(c:Int)])++pts ((bl s).drop (k+j))):=by show L=_;rw[hLk.out,e1,List.append_assoc];rfl
     have HD:=Lib.hid hd;clear hd;clear hne2 e1 hLk
     go_wp2_with (first
      | (at_next;refine jd8 rfl _ rfl wr r s k rfl hI hlt c j HD ?_;intro w3 hI3 ho3 hg3)
      | (at_builtin;(refine jc4 rfl _ _ 105 21 rfl Tryz.underlying105 (.int .i32 0) 1 4 qc1 rfl (by decide) w3 w2.heap.size u6 acc.length (icells acc) rfl (HO3.out w3 ho3) #[.int .i32 (c:Int)] rfl (by simp[Value.oneCell']) rfl (by omega) (by omega) (Nat.le_trans hbel.size hg3.size) ?_;intro v' w4 hown4 hb4 hk4)))
     have hne4:some r≠_:=HNE.out;have hI4:=hI3.blk (hk4 r hI3.lt hne4);have hbw4:Below w2.heap.size w2 w4:=(hbel.grown hg3 hbel.size (by intro q hq;cases hq;exact hW2)).trans hb4;have hp4:=hI4.pos;have hown5:OwnI w4 w2.heap.size v' (acc ++ [(c:Int)]):=by unfold OwnI;rw[jx4,List.length_append];exact hown4
     have HP4:=Lib.hid hp4;clear hp4;clear hne4 hown4
     go_roundw
     case rel=>exact⟨k+j,acc ++ [(c:Int)],hown5,hI4,by omega,by rw[List.length_append];simp;omega,e2,hbw4⟩
     case measure=>rw[HP.out,HP4.out];omega
   · have hkk:k=s.size:=by omega
     subst hkk;have e2:Hid (L=acc):=by show L=_;rw[hLk.out,List.drop_of_length_le (by rw[HLs.out];exact Nat.le_refl _),kz6,List.append_nil]
     obtain⟨a1,a2⟩:=(show Live wr w.heap.size 0 (.int .i64 0) from⟨(hbel.cell (p:=⟨w.heap.size,0,none⟩) m0.lt).trans m0.1,(hbel.frozen (p:=⟨w.heap.size,0,none⟩) m0.lt).trans m0.2⟩);obtain⟨a3,a4⟩:=(show Live wr w.heap.size 1 (.int .i64 0) from⟨(hbel.cell (p:=⟨w.heap.size,1,none⟩) m0.lt).trans m1.1,(hbel.frozen (p:=⟨w.heap.size,1,none⟩) m0.lt).trans m1.2⟩)
     go_wp2_with (at_next;refine jk6 rfl _ rfl wr r s s.size rfl hI (Nat.le_refl _) ?_)
     refine bodyPost_ret (v:=.tuple #[_,.agg #[.int .i64 0,.int .i64 0]]) (by simp[results,Tryz.results160,go_sem,a1,a2,a3,a4];rfl) rfl ?_;unfold PtsPost;rw[HR.out];refine⟨_,rfl,?_,?_⟩
     · rw[if_pos rfl,←HL.out,e2.out]
       exact jc3 (jb5 hown fun q hq=>by
        have h1:=(jb7 hown q hq).1;have:w.heap.size<w2.heap.size:=m0.lt;rw[Below.heap_setCell _ _ _ _ (by simp;omega),Below.heap_setCell _ _ _ _ (by simp;omega)]) hbw.size
     · exact((hbw.trans (hbel.mono hbw.size)).setCell (Nat.le_refl _) _).setCell (Nat.le_refl _) _
end Go.Proofs.YtagjkmkmphamoaaGreatDoor
namespace Go.Proofs.YtagjkmkmphamoaaGreatDoor
def Scal(p:Int):Prop:=0≤p∧p≤1114111∧(p<55296∨57343<p)
theorem u8n(z:Int)(h0:0≤z)(h1:z<256):(z.toNat.toUInt8).toNat=z.toNat:=by
 show(UInt8.ofNat z.toNat).toNat=_;rw[UInt8.toNat_ofNat'];omega
theorem qd1(p:Int)(hp:Scal p)(l:List UInt8):dec (encR p++l)=(p.toNat,(encR p).length):=by
 obtain⟨h0,h1,h2⟩:=hp;unfold dec encR Lib.encodeRune;by_cases a:p≤127
 · rw[Lib.encodeRuneZ_one h0 a]
   simp only[List.map_cons,List.map_nil,List.cons_append,List.nil_append,List.getD_cons_zero,List.length_cons,List.length_nil];rw[u8n p h0 (by omega)];unfold Lib.decodeN;rw[if_pos (by omega)]
 by_cases b:p≤2047
 · rw[Lib.encodeRuneZ_two (by omega) b]
   simp only[List.map_cons,List.map_nil,List.cons_append,List.nil_append,List.getD_cons_zero,List.getD_cons_succ,List.length_cons,List.length_nil];rw[u8n _ (by omega) (by omega),u8n _ (by omega) (by omega)];unfold Lib.decodeN;rw[if_neg (by omega),if_pos (by omega),if_pos (by omega)];refine Prod.ext ?_ rfl;show _=p.toNat;omega
 by_cases c:p≤65535
 · rw[Lib.encodeRuneZ_three (by omega)]
   simp only[List.map_cons,List.map_nil,List.cons_append,List.nil_append,List.getD_cons_zero,List.getD_cons_succ,List.length_cons,List.length_nil];rw[u8n _ (by omega) (by omega),u8n _ (by omega) (by omega),u8n _ (by omega) (by omega)];unfold Lib.decodeN;rw[if_neg (by omega),if_neg (by omega),if_pos (by omega),if_pos (by omega)];refine Prod.ext ?_ rfl;show _=p.toNat;omega
 · rw[Lib.encodeRuneZ_four (by omega) h1]
   simp only[List.map_cons,List.map_nil,List.cons_append,List.nil_append,List.getD_cons_zero,List.getD_cons_succ,List.length_cons,List.length_nil];rw[u8n _ (by omega) (by omega),u8n _ (by omega) (by omega),u8n _ (by omega) (by omega),u8n _ (by omega) (by omega)];unfold Lib.decodeN;rw[if_neg (by omega),if_neg (by omega),if_neg (by omega),if_pos (by omega),if_pos (by omega)];refine Prod.ext ?_ rfl;show _=p.toNat;omega
theorem xg3(p:Int)(l:List UInt8):encR p++l ≠ []:=by
 have h1:=(jj2 p).1;intro e;have h2:=congrArg List.length e;rw[List.length_append]at h2;simp only[List.length_nil]at h2;omega
theorem bad_encR(p:Int)(hp:Scal p)(l:List UInt8):badDec (encR p++l)=false:=by
 unfold badDec;rw[qd1 p hp l];simp only[Bool.and_eq_false_iff,decide_eq_false_iff_not];by_cases h:p=65533
 · right
   subst h;have:(encR 65533).length=3:=by kernel_rfl
   omega
 · left;obtain⟨h0,_⟩:=hp;omega
def encL(l:List Int):List UInt8:=l.flatMap encR
theorem qm8(p:Int)(l:List Int):encL (p::l)=encR p++encL l:=by simp[encL]
theorem pts_encR(p:Int)(hp:Scal p)(l:List UInt8):pts (encR p++l)=p::pts l:=by
 rw[kg3 _ (xg3 p l),qd1 p hp l];obtain⟨h0,_⟩:=hp;simp only[List.drop_left];rw[Int.toNat_of_nonneg h0]
theorem pts_encL(a:List Int)(h:∀p∈a,Scal p)(l:List UInt8):pts (encL a++l)=a++pts l:=by
 induction a with
 | nil=>simp[encL]
 | cons p a ih=>
  rw[qm8,List.append_assoc,pts_encR p (h p (List.mem_cons_self ..)),ih fun q hq=>h q (List.mem_cons_of_mem _ hq)]
  rfl
theorem vv0(a:List Int)(h:∀p∈a,Scal p):pts (encL a)=a:=by
 have:=pts_encL a h []
 rwa [List.append_nil,kz6,List.append_nil]at this
theorem vs6(a:List Int)(h:∀p∈a,Scal p):∀(f at_ n:Nat),(encL a).length≤f→scanF f (encL a) at_ n=(n+a.length,none):=by
 induction a with
 | nil=>intro f at_ n _;rw[show encL [] = [] from rfl,kk0];rfl
 | cons p a ih=>
  intro f at_ n hf;have hp:=h p (List.mem_cons_self ..);have hl:=jj2 p;rw[qm8]at hf ⊢;rw[List.length_append]at hf;obtain⟨f,rfl⟩:∃g,f=g+1:=⟨f-1,by omega⟩;rw[js9 f _ at_ n (xg3 p _) (bad_encR p hp _),qd1 p hp];simp only[List.drop_left];rw[ih (fun q hq=>h q (List.mem_cons_of_mem _ hq)) f _ _ (by omega)];simp only[List.length_cons,Prod.mk.injEq,and_true];omega
theorem vf4(a:List Int)(h:∀p∈a,Scal p):scanL (encL a)=(a.length,none):=by
 unfold scanL;rw[vs6 a h _ _ _ (Nat.le_refl _)];simp
end Go.Proofs.YtagjkmkmphamoaaGreatDoor
namespace Go.Proofs.YtagjkmkmphamoaaGreatDoor
open Go.RowKit
theorem text_233:textM [233]=([195,169],true):=by decide +kernel
theorem scan_aca:scanL (bl ⟨#[97,195,97]⟩)=(0,some 1):=by decide +kernel
theorem kp9(w:World)(hT:TW w):Calls Tryz.prog 132 #[] w fun e w'=>e=.returned (.bool true)∧Below w.heap.size w w':=by
 have k1:=fun w t=>kf7 _ [233] _ (qq5 w 233 t) (by simp)
 have k2:∀w,TW w→Calls Tryz.prog 160 #[.string ⟨#[97,195,97]⟩] w fun e w'=>∃v,e=.returned (.tuple #[v,.agg #[.int .i64 2,.int .i64 1]])∧Below w.heap.size w w':=fun w hT=>
  (ks7 ⟨#[97,195,97]⟩ w hT (by decide)).mono fun e w' ⟨v,he,ho,hb⟩=>⟨v,by rw[he,scan_aca];rfl,hb⟩
 have k3:=qc9 2 1 2 1;have k4:=fun op x y w=>jj6 op x y #[.int .i64 2,.int .i64 1] #[.int .i64 2,.int .i64 1] w
 rw[text_233]at k1;have K1:=Lib.hid k1;have K2:=Lib.hid k2;clear k1 k2
 go_enter Tryz.func132,Tryz.ntmps132
 go_wp2_with (first
  | (go_at_call 159;refine(K1.out _ _).mono ?_;rintro e w1 ⟨rfl,hb1⟩)
  | (go_at_call 160;refine(K2.out _ ((hT.alloc _).bel hb1)).mono ?_;rintro e w2 ⟨v,rfl,hb2⟩))
 go_ret
 exact⟨rfl,bal (bt (bt ((Below.refl _ _).alloc (Nat.le_refl _) _) hb1) hb2) _⟩
theorem xh8:bSignsM 136 98=([195,138,204,132],true):=by decide +kernel
theorem xj0:bBytesM [202,65]=([136,102],1):=by decide +kernel
theorem row_two0(w:World)(p q:Int)(t:TypeId):Row (w.alloc (.cells #[.int .i32 p,.int .i32 q] t)) (.slice (some ⟨w.heap.size,0,none⟩) 2 2) 2 (icells [p,q]):=by
 refine⟨_,_,rfl,fun j y hj=>⟨w.heap.size,0,rfl,?_⟩⟩
 match j,hj with
 | 0,hj=>simp[icells]at hj;subst hj;rw[World.cell?_alloc_new];rfl
 | 1,hj=>simp[icells]at hj;subst hj;rw[World.cell?_alloc_new];rfl
theorem qw6(w:World)(hT:TW w):Calls Tryz.prog 136 #[] w fun e w'=>e=.returned (.bool true)∧Below w.heap.size w w':=by
 have k1:=fun w=>kx0 136 98 w (by omega) (by omega) (by omega) (by omega)
 have k2:=fun w t hT=>vn6 _ [202,65] _ hT (row_two0 w 202 65 t) (by simp) (by decide)
 rw[xh8]at k1;rw[xj0]at k2;have K1:=Lib.hid k1;have K2:=Lib.hid k2;clear k1 k2
 go_enter Tryz.func136,Tryz.ntmps136
 go_wp2_with (first
  | (go_at_call 167;refine(K1.out _).mono ?_;rintro e w1 ⟨rfl,hb1⟩)
  | (go_at_call 168;refine(K2.out _ _ ((hT.bel hb1).alloc _)).mono ?_;rintro e w2 ⟨rfl,hb2⟩))
 go_ret
 exact⟨rfl,bt (bal hb1 _) hb2⟩
end Go.Proofs.YtagjkmkmphamoaaGreatDoor
