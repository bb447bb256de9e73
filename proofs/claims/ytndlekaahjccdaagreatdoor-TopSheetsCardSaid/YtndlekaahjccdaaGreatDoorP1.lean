/- P1 -/
import Derived.WalkSpells
import Derived.WalkLawsBesides
import Derived.Test.YtndlekaahjccdaaGreatDoorP0
set_option linter.all false
set_option maxRecDepth 100000
set_option maxHeartbeats 40000000
set_option maxHeartbeats 2000000
noncomputable section
namespace Go.Proofs.YtndlekaahjccdaaGreatDoor
open Go.RowKit Go.Proofs.Tryz
def y06:Code->Nat->Option (Array Oper)
 | .region i ops _,n=>if i=n then some ops else none
 | .seq a b,n=>match y06 a n with|some r=>some r|none=>y06 b n
 | .cond _ a b,n=>match y06 a n with|some r=>some r|none=>y06 b n
 | .block _ b,n=>y06 b n
 | .loop b,n=>y06 b n
 | .scope b,n=>y06 b n
 | _,_=>none
def strOf(o:Oper):ByteArray:=match o.op with
 | .index _ (.const (.string s)) _=>s
 | .assign (.const (.string s))=>s
 | _=>ByteArray.empty
def yGG(f:Func)(region op:Nat):ByteArray:=match f.body with
 | some c=>match y06 c region with
  | some ops=>match ops[op]? with|some o=>strOf o|none=>ByteArray.empty
  | none=>ByteArray.empty
 | none=>ByteArray.empty
section
variable {P:Program} {ops:Array Oper} {rest:List Oper} {o:Oper} {a:Act} {Q:Exit->Act->World->Prop} {w:World}
theorem y6k{S:ByteArray}{x:Operand}{t:TypeId}(S':ByteArray)(H8:o.guard=none)(ho:o.op=Op.index t (.const (.string S)) x)(ht:P.underlying t=some .string)
 (hS:S=S') (k:IntKind) (ii:Int) (i:Nat) (H6:ii=(i:Int)) (b:UInt8) (hx:a.eval x=.int k ii) (hb:(bl S')[i]?=some b)
 (h:wpList P ops Q rest (a.put o.dst (.int .u8 (b.toNat:Int))) w):wpList P ops Q (o::rest) a w:=by
 subst hS;subst H6;have hi:i<S.size:=by
  have:=(List.getElem?_eq_some_iff.1 hb).1
  rwa [zJ]at this
 refine wpList_plain H8 fun K hK=>?_
 have Ha:S[i]'hi=b:=by
  have H7:i<(bl S).length:=by rw[zJ];exact hi
  rw[List.getElem?_eq_getElem H7]at hb;exact zF hb
 have H9:a.eval (.const (.string S))=.string S:=rfl;have H5:(Instr.index t (.string S) (.int k i)).run P w=.ok (.int .u8 (b.toNat:Int)) w:=by
  rw[run_index_string _ t S k i ht];simp[hi,Ha]
 unfold Oper.wp;simp[execOp,ho,H9,hx,H5,Result.andThen];exact hK _ _ h
end
def membersB:ByteArray:=yGG Tryz.f385 5 1
def dig(c:Int):Int:=if 97<=c then c-39-48 else c-48
theorem y43:membersB.size=2793:=by kernel_rfl
def memAt(i:Nat):UInt8:=(bl membersB).getD i 0
theorem y3a(i:Nat)(h:i<2793):(bl membersB)[i]?=some (memAt i):=by
 have:i<(bl membersB).length:=by rw[zJ,y43];exact h
 unfold memAt;rw[List.getElem?_eq_getElem this,List.getD_eq_getElem?_getD,List.getElem?_eq_getElem this];rfl
theorem yA4:(bl membersB).all (fun b=>decide ((48<=b.toNat/\b.toNat<=57)\/(97<=b.toNat/\b.toNat<=102)))=true:=by decide +kernel
theorem yBT(i:Nat)(h:i<2793):(48<=((memAt i).toNat:Int)/\((memAt i).toNat:Int)<=57)\/(97<=((memAt i).toNat:Int)/\((memAt i).toNat:Int)<=102):=by
 have h1:=yA4;rw[List.all_eq_true]at h1;have h2:=h1 (memAt i) (List.mem_of_getElem? (y3a i h));simp only[decide_eq_true_eq]at h2;omega
def grpF(g:Nat):Nat->Int
 | 0=>0
 | j+1=>grpF g j*16+dig (memAt (g*7+j)).toNat
def grp(g:Nat):Int:=grpF g 7
theorem yBs(i:Nat)(h:i<2793):0<=dig (memAt i).toNat/\dig (memAt i).toNat<=15:=by
 have:=yBT i h;unfold dig;split<;>omega
theorem yFd(g j:Nat)(hg:g<399)(hj:j<=7):0<=grpF g j/\grpF g j<16^j:=by
 induction j with
 | zero=>simp[grpF]
 | succ j ih=>
  have h1:=ih (by omega);have h2:=yBs (g*7+j) (by omega);have h3:(16:Int)^(j+1)=16^j*16:=by rw[Int.pow_succ]
  rw[grpF,h3];generalize (16:Int)^j=q at *;omega
theorem pow16(j:Nat)(hj:j<=7):(16:Int)^j<=268435456:=by
 match j,hj with
 | 0,_=>decide
 | 1,_=>decide
 | 2,_=>decide
 | 3,_=>decide
 | 4,_=>decide
 | 5,_=>decide
 | 6,_=>decide
 | 7,_=>decide
theorem y6W(g:Nat)(hg:g<399):0<=grp g/\grp g<268435456:=by
 have:=yFd g 7 hg (by omega);have:=pow16 7 (by omega);unfold grp;omega
theorem wraps_u32(n:Int)(h₀:0<=n)(h₁:n<2^32):IntKind.u32.wrap n=n:=by rw[IntKind.wrap_u32];omega
theorem yDb(x y:Int)(hx₀:0<=x)(hx:x%16=0)(hx₁:x<4294967296)(hy₀:0<=y)(hy:y<16):bits .or .u32 x y=x+y:=
 bits_join .u32 32 (by decide) wraps_u32 4 x y hx₀ hx hx₁ hy₀ hy (by omega)
theorem y5Z(g:Nat)(w:World)(hg:g<399):
 Calls prog 385 #[.int .i64 g] w fun e w'=>e=.returned (.int .u32 (grp g))/\w=w':=by
 have hS:=y43
 go_enter func385,ntmps385
 go_wp2
 go_loop [3,4,5] (fun n i c=>∃j:Nat,j<=7/\i=.int .i64 ((g:Int)*7+j)/\n=.int .u32 (grpF g j)) (fun _ i _=>(g*7+7-intOf i).toNat)
 case atStart=>exact⟨0,by omega,by simp,rfl⟩
 case round=>
  obtain⟨j,hj,rfl,rfl⟩:=hrel;by_cases H6:j<7
  . have hm:=y3a (g*7+j) (by omega)
    have hb:=yBT (g*7+j) (by omega);have hd:=yBs (g*7+j) (by omega);have hs:grpF g (j+1)=grpF g j*16+dig (memAt (g*7+j)).toNat:=rfl;obtain⟨h0,h1⟩:=yFd g j hg (by omega);have h2:=pow16 j (by omega);have h3:grpF g j<268435456:=by omega
    generalize memAt (g*7+j)=b at *;have HM:=z7 hm;have HS:=z7 hs;clear hm hs h1 h2 hS;generalize grpF g j=n at *
    go_wp2_with (with_reducible refine y6k membersB rfl rfl underlying9 (by kernel_rfl) .i64 ((g:Int)*7+j) (g*7+j) (by omega) b rfl HM.out ?_)
    all_goals
     go_round
     case rel=>
      refine⟨j+1,by omega,by go_num,?_⟩;rw[HS.out];unfold dig at *
      congr 1
      first
       | (rw[if_pos (by omega)]at hd ⊢;exact yDb _ _ (by omega) (by omega) (by omega) (by omega) (by omega))
       | (rw[if_neg (by omega)]at hd ⊢;exact yDb _ _ (by omega) (by omega) (by omega) (by omega) (by omega))
     case measure=>simp[intOf];omega
  . have H5:j=7:=by omega
    subst H5;go_wp2;go_ret
    exact⟨rfl,rfl⟩
def pop8(i:Nat):Nat:=(List.range 8).countP fun k=>i/2^k%2==1
def pop32(n:Nat):Nat:=pop8 (n/16777216)+pop8 (n/65536%256)+pop8 (n/256%256)+pop8 (n%256)
theorem y0p(i:Nat):pop8 i<=8:=by
 unfold pop8;have:=List.countP_le_length (p:=fun k=>i/2^k%2==1) (l:=List.range 8);simpa using this
theorem y4r(x:Int)(h₀:0<=x)(h₁:x<4294967296):bits .and .u32 x 255=x%256:=bits_mask .u32 32 (by decide) wraps_u32 8 (by decide) x h₀ h₁
theorem y7Q(n:Nat)(w:World)(hn:n<4294967296):
 Calls prog 384 #[.int .u32 n] w fun e w'=>e=.returned (.int .i64 (pop32 n))/\Below w.heap.size w w':=by
 have hP:∀(i:Nat) (h:i<(⟨#[0,1,1,2,1,2,2,3,1,2,2,3,2,3,3,4,1,2,2,3,2,3,3,4,2,3,3,4,3,4,4,5,1,2,2,3,2,3,3,4,2,3,3,4,3,4,4,5,2,3,3,4,3,4,4,5,3,4,4,5,4,5,5,6,1,2,2,3,2,3,3,4,2,3,3,4,3,4,4,5,2,3,3,4,3,4,4,5,3,4,4,5,4,5,5,6,2,3,3,4,3,4,4,5,3,4,4,5,4,5,5,6,3,4,4,5,4,5,5,6,4,5,5,6,5,6,6,7,1,2,2,3,2,3,3,4,2,3,3,4,3,4,4,5,2,3,3,4,3,4,4,5,3,4,4,5,4,5,5,6,2,3,3,4,3,4,4,5,3,4,4,5,4,5,5,6,3,4,4,5,4,5,5,6,4,5,5,6,5,6,6,7,2,3,3,4,3,4,4,5,3,4,4,5,4,5,5,6,3,4,4,5,4,5,5,6,4,5,5,6,5,6,6,7,3,4,4,5,4,5,5,6,4,5,5,6,5,6,6,7,4,5,5,6,5,6,6,7,5,6,6,7,6,7,7,8]⟩:ByteArray).size),((⟨#[0,1,1,2,1,2,2,3,1,2,2,3,2,3,3,4,1,2,2,3,2,3,3,4,2,3,3,4,3,4,4,5,1,2,2,3,2,3,3,4,2,3,3,4,3,4,4,5,2,3,3,4,3,4,4,5,3,4,4,5,4,5,5,6,1,2,2,3,2,3,3,4,2,3,3,4,3,4,4,5,2,3,3,4,3,4,4,5,3,4,4,5,4,5,5,6,2,3,3,4,3,4,4,5,3,4,4,5,4,5,5,6,3,4,4,5,4,5,5,6,4,5,5,6,5,6,6,7,1,2,2,3,2,3,3,4,2,3,3,4,3,4,4,5,2,3,3,4,3,4,4,5,3,4,4,5,4,5,5,6,2,3,3,4,3,4,4,5,3,4,4,5,4,5,5,6,3,4,4,5,4,5,5,6,4,5,5,6,5,6,6,7,2,3,3,4,3,4,4,5,3,4,4,5,4,5,5,6,3,4,4,5,4,5,5,6,4,5,5,6,5,6,6,7,3,4,4,5,4,5,5,6,4,5,5,6,5,6,6,7,4,5,5,6,5,6,6,7,5,6,6,7,6,7,7,8]⟩:ByteArray)[i]'h).toNat=pop8 i:=by
  intro i h;have h':i<256:=h;have:∀j:Fin 256,((⟨#[0,1,1,2,1,2,2,3,1,2,2,3,2,3,3,4,1,2,2,3,2,3,3,4,2,3,3,4,3,4,4,5,1,2,2,3,2,3,3,4,2,3,3,4,3,4,4,5,2,3,3,4,3,4,4,5,3,4,4,5,4,5,5,6,1,2,2,3,2,3,3,4,2,3,3,4,3,4,4,5,2,3,3,4,3,4,4,5,3,4,4,5,4,5,5,6,2,3,3,4,3,4,4,5,3,4,4,5,4,5,5,6,3,4,4,5,4,5,5,6,4,5,5,6,5,6,6,7,1,2,2,3,2,3,3,4,2,3,3,4,3,4,4,5,2,3,3,4,3,4,4,5,3,4,4,5,4,5,5,6,2,3,3,4,3,4,4,5,3,4,4,5,4,5,5,6,3,4,4,5,4,5,5,6,4,5,5,6,5,6,6,7,2,3,3,4,3,4,4,5,3,4,4,5,4,5,5,6,3,4,4,5,4,5,5,6,4,5,5,6,5,6,6,7,3,4,4,5,4,5,5,6,4,5,5,6,5,6,6,7,4,5,5,6,5,6,6,7,5,6,6,7,6,7,7,8]⟩:ByteArray)[j.val]'j.isLt).toNat=pop8 j.val:=by decide +kernel
  exact this ⟨i,h'⟩
 have m1:bits .and .u32 ((n:Int)/65536) 255=(n:Int)/65536%256:=y4r _ (by omega) (by omega);have m2:bits .and .u32 ((n:Int)/256) 255=(n:Int)/256%256:=y4r _ (by omega) (by omega);have m3:bits .and .u32 (n:Int) 255=(n:Int)%256:=y4r _ (by omega) (by omega);have b1:(n:Int)/16777216<256:=by omega
 have b2:(n:Int)/65536%256<256:=by omega
 have b3:(n:Int)/256%256<256:=by omega
 have b4:(n:Int)%256<256:=by omega
 go_enter func384,ntmps384
 go_wp2
 go_quiet (fail)
 go_wp2
 go_ret
 have q1:=y0p (n/16777216);have q2:=y0p (n/65536%256);have q3:=y0p (n/256%256);have q4:=y0p (n%256);refine⟨y3A ?_,bdn (z8) _⟩;unfold pop32;omega
def tzAt(n:Int):Int:=bits .and .u32 n (-n%4294967296)*125613361%4294967296/134217728
def tz32(n:Int):Nat:=if n=0 then 32 else Lib.deBruijn32tab.getD (tzAt n).toNat 0
theorem yDd(n:Int):0<=tzAt n/\tzAt n<32:=by
 unfold tzAt;omega
theorem tz_le:∀i:Fin 32,Lib.deBruijn32tab.getD i.val 0<32:=by decide
theorem yDe(n:Int):tz32 n<=32:=by
 unfold tz32;have h:=yDd n;have h2:=tz_le ⟨(tzAt n).toNat,by omega⟩;simp only at h2;split<;>omega
theorem yIT(n:Int)(w:World)(hT:TW w)(h0:0<=n)(h1:n<4294967296):
 Calls prog 406 #[.int .u32 n] w fun e w'=>e=.returned (.int .i64 (tz32 n))/\w=w':=by
 have hb:=yDd n;have ht:tz32 n=if n=0 then 32 else Lib.deBruijn32tab.getD (tzAt n).toNat 0:=rfl
 have hd:=hT.db (tzAt n).toNat (by omega);rw[ht];clear ht hT;by_cases hz:n=0
 . subst hz
   go_enter func406,ntmps406
   go_wp2
   go_ret
   exact⟨rfl,rfl⟩
 . rw[if_neg hz]
   have hr:=tz_le ⟨(tzAt n).toNat,by omega⟩;simp only at hr;generalize Lib.deBruijn32tab.getD (tzAt n).toNat 0=r at *;unfold tzAt at hd hb;obtain⟨H7,H6⟩:=hb;have H5:(n==0)=false:=by simpa using hz
   go_enter func406,ntmps406
   go_wp2
   go_ret
   exact⟨rfl,rfl⟩
theorem y18(n:Int)(w:World)(h0:0<=n)(h1:n<4294967296):
 Calls prog 384 #[.int .u32 n] w fun e w'=>e=.returned (.int .i64 (pop32 n.toNat))/\Below w.heap.size w w':=by
 obtain⟨m,rfl⟩:=Int.eq_ofNat_of_zero_le h0;exact y7Q m w (by omega)
theorem y4T(n:Nat):pop32 n<=32:=by
 have q1:=y0p (n/16777216);have q2:=y0p (n/65536%256);have q3:=y0p (n/256%256);have q4:=y0p (n%256);unfold pop32;omega
theorem y0m(op:BinOp)(x y:Int):0<=bits op .u32 x y/\bits op .u32 x y<4294967296:=by
 unfold bits;simp only[IntKind.wrap_u32];omega
def grpW(within:Bool)(g:Nat):Int:=if within then grp g else bits .xor .u32 (grp g) 268435455
def clr(n:Int):Nat->Int
 | 0=>n
 | j+1=>clr (bits .and .u32 n ((n-1)%4294967296)) j
def chooseF(within:Bool):Nat->Nat->Nat->Int×Bool
 | 0,_,_=>(0,false)
 | f+1,g,k=>if pop32 (grpW within g).toNat<=k then chooseF within f (g+1) (k-pop32 (grpW within g).toNat)
  else(44032+(g:Int)*28+tz32 (clr (grpW within g) k),true)
def chooseM(k:Int)(within:Bool):Int×Bool:=if k<0 then(0,false)else chooseF within 399 0 k.toNat
theorem yJp(within:Bool)(g:Nat)(hg:g<399):0<=grpW within g/\grpW within g<4294967296:=by
 unfold grpW;split
 . have:=y6W g hg;omega
 . exact y0m _ _ _
theorem y6b(k:Int)(within:Bool)(w:World)(hT:TW w)(hk:k<40000):
 Calls prog 393 #[.int .i64 k,.bool within] w fun e w'=>e=.returned (.tuple #[.int .i32 (chooseM k within).1,.bool (chooseM k within).2])/\Below w.heap.size w w':=by
 by_cases H7:k<0
 . have e:chooseM k within=(0,false):=by unfold chooseM;rw[if_pos H7]
   rw[e]
   go_enter func393,ntmps393
   go_wp2_with fail
   go_ret2
   exact⟨rfl,z8⟩
 . obtain⟨k,rfl⟩:=Int.eq_ofNat_of_zero_le (show 0<=k from by omega)
   obtain⟨R,hR⟩:∃R,R=chooseF within 399 0 k:=⟨_,rfl⟩;have e:chooseM k within=R:=by unfold chooseM;rw[if_neg H7,Int.toNat_natCast,hR]
   rw[e];have HR:=z7 hR;have HT:=z7 hT;have Hg:k<40000:=by omega
   have K0:Hid (k=k):=rfl;clear e hR hT hk
   go_enter func393,ntmps393
   go_wp2
   go_loopw [0,6] (fun kk g wr=>∃(f i j:Nat),kk=.int .i64 (j:Int)/\g=.int .i64 (i:Int)/\i+f=399/\j<40000/\Hid (chooseF within f i j=R)/\Below w.heap.size w wr) (fun _ g _=>(399-intOf g).toNat)
   case atStart=>exact⟨399,0,k,rfl,rfl,rfl,Hg,HR.out.symm,z8⟩
   case round=>
    obtain⟨f,i,j,rfl,rfl,hi,hj,hR,H6⟩:=hrel;by_cases Hd:i<399
    . obtain⟨f,rfl⟩:∃g,f=g+1:=⟨f-1,by omega⟩
      have c1:=fun w=>y5Z i w Hd
      obtain⟨g0,g1⟩:=y6W i Hd;obtain⟨gw0,gw1⟩:=yJp within i Hd;have hp:=y4T (grpW within i).toNat;have c2:=fun w=>y18 (grpW within i) w gw0 gw1
      have hr:=hR.out;rw[chooseF]at hr;have H9:grpW within i=if within then grp i else bits .xor .u32 (grp i) 268435455:=rfl
      cases within
      . simp only[Bool.false_eq_true,if_false]at H9
        generalize pop32 (grpW false i).toNat=c at *;rw[H9]at c2 hr gw0 gw1;clear H9 H7;generalize grp i=n at *;have C1:=z7 c1;have C2:=z7 c2;clear c1 c2;by_cases hc:c<=j
        . rw[if_pos hc]at hr
          have H:=z7 hr;have HI:=z7 hi;clear hr hi gw0 gw1
          go_wp2_with (first
           | (go_at_call 385;refine(C1.out _).mono ?_;rintro e w' ⟨rfl,rfl⟩)
           | (go_at_call 384;refine(C2.out _).mono ?_;rintro e w1 ⟨rfl,H8⟩))
          go_roundw
          case rel=>exact⟨f,i+1,j-c,by go_num,by go_num,by have:=HI.out;omega,by omega,H.out,bt H6 H8⟩
          case measure=>simp[intOf];omega
        . rw[if_neg hc]at hr
          have H:=z7 hr;have HG:Hid (0<=bits .xor .u32 n 268435455/\bits .xor .u32 n 268435455<4294967296):=⟨gw0,gw1⟩;clear hr hi gw0 gw1
          go_wp2_with (first
           | (go_at_call 385;refine(C1.out _).mono ?_;rintro e w' ⟨rfl,rfl⟩)
           | (go_at_call 384;refine(C2.out _).mono ?_;rintro e w1 ⟨rfl,H8⟩))
          have Hb:=bt H6 H8;clear H6 H8
          go_loop [0,7] (fun kk m=>∃(q:Nat) (x:Int),kk=.int .i64 (q:Int)/\m=.int .u32 x/\q<=j/\Hid (0<=x/\x<4294967296)/\Hid (clr x q=clr (bits .xor .u32 n 268435455) j)) (fun kk _=>(intOf kk).toNat)
          case atStart=>exact⟨j,_,rfl,rfl,zA,HG.out,rfl⟩
          case round=>
           obtain⟨q,x,rfl,rfl,hq,hx,Ha⟩:=hrel;by_cases Hf:0<q
           . obtain⟨q,rfl⟩:∃r,q=r+1:=⟨q-1,by omega⟩
             have Hc:0<=x/\x<4294967296:=hx.out;obtain⟨x0,x1⟩:=Hc;have e1:clr (bits .and .u32 x ((x-1)%4294967296)) q=clr (bits .xor .u32 n 268435455) j:=Ha.out;have E1:=z7 e1;clear e1;go_wp2
             go_round
             case rel=>exact⟨q,_,by go_num,rfl,by omega,y0m _ _ _,E1.out⟩
             case measure=>simp[intOf]
           . obtain rfl:q=0:=by omega
             have e1:x=clr (bits .xor .u32 n 268435455) j:=Ha.out;obtain⟨x0,x1⟩:=hx.out;have He:=yDe x;have c3:=fun w hT=>yIT x w hT x0 x1
             have H5:=H.out;rw[<-e1]at H5;generalize tz32 x=z at *;have C3:=z7 c3;have HF:=z7 H5;clear c3 H5 e1 H
             go_wp2_with (go_at_call 406;refine(C3.out _ (HT.out.bel Hb)).mono ?_;rintro e w' ⟨rfl,rfl⟩)
             go_ret2
             exact⟨by rw[<-HF.out];rfl,Hb⟩
      . simp only[if_true]at H9
        generalize pop32 (grpW true i).toNat=c at *;rw[H9]at c2 hr gw0 gw1;clear H9 H7;generalize grp i=n at *;have C1:=z7 c1;have C2:=z7 c2;clear c1 c2;by_cases hc:c<=j
        . rw[if_pos hc]at hr
          have H:=z7 hr;have HI:=z7 hi;clear hr hi gw0 gw1
          go_wp2_with (first
           | (go_at_call 385;refine(C1.out _).mono ?_;rintro e w' ⟨rfl,rfl⟩)
           | (go_at_call 384;refine(C2.out _).mono ?_;rintro e w1 ⟨rfl,H8⟩))
          go_roundw
          case rel=>exact⟨f,i+1,j-c,by go_num,by go_num,by have:=HI.out;omega,by omega,H.out,bt H6 H8⟩
          case measure=>simp[intOf];omega
        . rw[if_neg hc]at hr
          have H:=z7 hr;have HG:Hid (0<=n/\n<4294967296):=⟨gw0,gw1⟩;clear hr hi gw0 gw1
          go_wp2_with (first
           | (go_at_call 385;refine(C1.out _).mono ?_;rintro e w' ⟨rfl,rfl⟩)
           | (go_at_call 384;refine(C2.out _).mono ?_;rintro e w1 ⟨rfl,H8⟩))
          have Hb:=bt H6 H8;clear H6 H8
          go_loop [0,7] (fun kk m=>∃(q:Nat) (x:Int),kk=.int .i64 (q:Int)/\m=.int .u32 x/\q<=j/\Hid (0<=x/\x<4294967296)/\Hid (clr x q=clr (n) j)) (fun kk _=>(intOf kk).toNat)
          case atStart=>exact⟨j,_,rfl,rfl,zA,HG.out,rfl⟩
          case round=>
           obtain⟨q,x,rfl,rfl,hq,hx,Ha⟩:=hrel;by_cases Hf:0<q
           . obtain⟨q,rfl⟩:∃r,q=r+1:=⟨q-1,by omega⟩
             have Hc:0<=x/\x<4294967296:=hx.out;obtain⟨x0,x1⟩:=Hc;have e1:clr (bits .and .u32 x ((x-1)%4294967296)) q=clr (n) j:=Ha.out;have E1:=z7 e1;clear e1;go_wp2
             go_round
             case rel=>exact⟨q,_,by go_num,rfl,by omega,y0m _ _ _,E1.out⟩
             case measure=>simp[intOf]
           . obtain rfl:q=0:=by omega
             have e1:x=clr (n) j:=Ha.out;obtain⟨x0,x1⟩:=hx.out;have He:=yDe x;have c3:=fun w hT=>yIT x w hT x0 x1
             have H5:=H.out;rw[<-e1]at H5;generalize tz32 x=z at *;have C3:=z7 c3;have HF:=z7 H5;clear c3 H5 e1 H
             go_wp2_with (go_at_call 406;refine(C3.out _ (HT.out.bel Hb)).mono ?_;rintro e w' ⟨rfl,rfl⟩)
             go_ret2
             exact⟨by rw[<-HF.out];rfl,Hb⟩
    . have Hi:f=0:=by omega
      subst Hi;have hr:=hR.out;rw[chooseF]at hr;have H:=z7 hr;have Hh:i=399:=by omega
      subst Hh;clear hi hr;go_wp2;go_ret2
      exact⟨by rw[<-H.out];rfl,H6⟩
theorem yEX(k:Int)(w:World)(hT:TW w)(hk:k<40000):
 Calls prog 391 #[.int .i64 k] w fun e w'=>e=.returned (.tuple #[.int .i32 (chooseM k true).1,.bool (chooseM k true).2])/\Below w.heap.size w w':=by
 have c1:=y6b k true w hT hk;generalize chooseM k true=r at *;have C1:=z7 c1;clear c1
 go_enter func391,ntmps391
 go_wp2_with (go_at_call 393;refine C1.out.mono ?_;rintro e w1 ⟨rfl,hb⟩)
 go_ret2
 exact⟨rfl,hb⟩
theorem y8t(k:Int)(w:World)(hT:TW w)(hk:k<40000):
 Calls prog 352 #[.int .i64 k] w fun e w'=>e=.returned (.tuple #[.int .i32 (chooseM k false).1,.bool (chooseM k false).2])/\Below w.heap.size w w':=by
 have c1:=y6b k false w hT hk;generalize chooseM k false=r at *;have C1:=z7 c1;clear c1
 go_enter func352,ntmps352
 go_wp2_with (go_at_call 393;refine C1.out.mono ?_;rintro e w1 ⟨rfl,hb⟩)
 go_ret2
 exact⟨rfl,hb⟩
def numberM(s:Int):Int:=if 65<=s/\s<=90 then s-65 else if 97<=s/\s<=122 then s-97+26 else if 129<=s/\s<=254 then s-129+52 else -1
def secondM(n:Int):Int:=if n<26 then 65+n else if n<52 then 97+n-26 else 129+n-52
theorem yCf(s:Int)(w:World)(h0:0<=s)(h1:s<=255):
 Calls prog 350 #[.int .i64 s] w fun e w'=>e=.returned (.int .i64 (numberM s))/\w=w':=by
 go_enter func350,ntmps350
 go_wp2
 all_goals go_ret
 all_goals (refine⟨y3A ?_,rfl⟩;unfold numberM;omega)
theorem y6G(s:Int)(w:World)(h0:0<=s)(h1:s<=255):
 Calls prog 353 #[.int .i64 s] w fun e w'=>e=.returned (.int .i64 (secondM s))/\w=w':=by
 go_enter func353,ntmps353
 go_wp2
 all_goals go_ret
 all_goals (refine⟨y3A ?_,rfl⟩;unfold secondM;omega)
def popSum:Nat->Nat
 | 0=>0
 | g+1=>popSum g+pop32 (grp g).toNat
theorem y8V(g:Nat):popSum g<=32*g:=by
 induction g with
 | zero=>simp[popSum]
 | succ g ih=>have:=y4T (grp g).toNat;rw[popSum];omega
def lowBits(n p:Int):Int:=bits .and .u32 n ((2^((p-44032)%28).toNat-1)%4294967296)
def y8Z(n p:Int):Int:=bits .and .u32 n (2^((p-44032)%28).toNat%4294967296)
def y1X(p:Int):Int:=(popSum ((p-44032)/28).toNat+pop32 (lowBits (grp ((p-44032)/28).toNat) p).toNat:Nat)
def rankIn(p:Int):Bool:=!decide (y8Z (grp ((p-44032)/28).toNat) p=0)
def rankM(p:Int):Int:=if rankIn p then y1X p else p-44032-y1X p
theorem yHF(p:Int)(w:World)(h0 : -2147483648<=p)(h1:p<=2147483647)(h:p<44032\/55203<p):
 Calls prog 340 #[.int .i32 p] w fun e w'=>e=.returned (.tuple #[.int .i64 0,.bool false,.bool false])/\Below w.heap.size w w':=by
 rcases h with h|h
 all_goals (
  go_enter func340,ntmps340
  go_wp2
  go_ret3
  exact⟨rfl,z8⟩)
theorem yB9(p:Int)(w:World)(Hd:44032<=p)(Hc:p<=55203):
 Calls prog 340 #[.int .i32 p] w fun e w'=>e=.returned (.tuple #[.int .i64 (rankM p),.bool (rankIn p),.bool true])/\Below w.heap.size w w':=by
 go_enter func340,ntmps340
 go_wp2
 go_loopw [6,7] (fun own g wr=>∃i:Nat,g=.int .i64 (i:Int)/\own=.int .i64 (popSum i:Int)/\(i:Int)<=(p-44032)/28/\Below w.heap.size w wr) (fun _ g _=>((p-44032)/28-intOf g).toNat)
 case atStart=>exact⟨0,rfl,rfl,by omega,z8⟩
 case round=>
  obtain⟨i,rfl,rfl,hi,H5⟩:=hrel;by_cases He:(i:Int)<(p-44032)/28
  . have c1:=fun w=>y5Z i w (by omega)
    obtain⟨g0,g1⟩:=y6W i (by omega);have c2:=fun w=>y18 (grp i) w (by omega) (by omega)
    have hs:popSum (i+1)=popSum i+pop32 (grp i).toNat:=rfl;have hp:=y4T (grp i).toNat;have Ha:=y8V i;generalize pop32 (grp i).toNat=c at *;generalize grp i=n at *;generalize popSum i=s at *;have C1:=z7 c1;have C2:=z7 c2;have HS:=z7 hs;clear c1 c2 hs g0 g1
    go_wp2_with (first
     | (go_at_call 385;refine(C1.out _).mono ?_;rintro e w' ⟨rfl,rfl⟩)
     | (go_at_call 384;refine(C2.out _).mono ?_;rintro e w1 ⟨rfl,H6⟩))
    go_roundw
    case rel=>exact⟨i+1,by go_num,by rw[HS.out];go_num,by omega,bt H5 H6⟩
    case measure=>simp[intOf];omega
  . have H7:(i:Int)=(p-44032)/28:=by omega
    have c1:=fun w=>y5Z i w (by omega)
    obtain⟨g0,g1⟩:=y6W i (by omega);rw[H7]at c1;have Ha:=y8V i;have Hf:(i:Int)<399:=by omega
    have it:((p-44032)/28).toNat=i:=by omega
    have ho:y1X p=(popSum i+pop32 (lowBits (grp i) p).toNat:Nat):=by unfold y1X;rw[it]
    have hI:rankIn p = !decide (y8Z (grp i) p=0):=by unfold rankIn;rw[it]
    have hM:rankM p=if rankIn p then y1X p else p-44032-y1X p:=rfl
    have c2:=fun w=>y18 (lowBits (grp i) p) w (y0m _ _ _).1 (y0m _ _ _).2
    have Hb:=y4T (lowBits (grp i) p).toNat;generalize pop32 (lowBits (grp i) p).toNat=c at *;generalize popSum i=s at *;generalize grp i=n at *;have C1:=z7 c1;have C2:=z7 c2;have H2:=z7 H7;rw[ho]at hM;by_cases hz:y8Z n p=0
    . rw[hI,hz]at hM
      have HI:Hid (rankIn p=false):=by show rankIn p=false;rw[hI,hz];rfl
      have HM:=z7 hM;have H9:(bits .and .u32 n (2^((p-44032)%28).toNat%4294967296) != 0)=false:=by simpa[y8Z]using hz
      clear c1 c2 H7 ho hI hM hz it
      go_wp2_with fail
      with_reducible refine(C1.out _).mono ?_
      rintro e w1 ⟨rfl,rfl⟩
      go_wp2_with fail
      unfold lowBits at C2
      with_reducible refine(C2.out _).mono ?_
      rintro e w1 ⟨rfl,H6⟩
      go_wp2_with fail
      go_ret3
      exact⟨by rw[HM.out,HI.out];simp,bt H5 H6⟩
    . have H8:rankIn p=true:=by rw[hI];simpa using hz
      rw[H8]at hM;have HI:=z7 H8;have HM:=z7 hM;have H9:(bits .and .u32 n (2^((p-44032)%28).toNat%4294967296) != 0)=true:=by simpa[y8Z]using hz
      clear c1 c2 H7 ho hI H8 hM hz it
      go_wp2_with fail
      with_reducible refine(C1.out _).mono ?_
      rintro e w1 ⟨rfl,rfl⟩
      go_wp2_with fail
      unfold lowBits at C2
      with_reducible refine(C2.out _).mono ?_
      rintro e w1 ⟨rfl,H6⟩
      go_wp2_with fail
      go_ret3
      exact⟨by rw[HM.out,HI.out];simp,bt H5 H6⟩
