/- Wa -/
import Derived.WalkSpells
import Derived.WalkLawsBesides
import Derived.BigQuiet
import Derived.Test.YtagjkmkmphamoaaGreatDoorPWo
set_option linter.all false
set_option maxHeartbeats 2000000
namespace Go.Proofs.YtagjkmkmphamoaaGreatDoor
open Go.RowKit
def regionOps:Code→Nat→Option (Array Oper)
 | .region i ops _,n=>if i=n then some ops else none
 | .seq a b,n=>match regionOps a n with|some r=>some r|none=>regionOps b n
 | .cond _ a b,n=>match regionOps a n with|some r=>some r|none=>regionOps b n
 | .block _ b,n=>regionOps b n
 | .loop b,n=>regionOps b n
 | .scope b,n=>regionOps b n
 | _,_=>none
def strOf(o:Oper):ByteArray:=match o.op with
 | .index _ (.const (.string s)) _=>s
 | .assign (.const (.string s))=>s
 | _=>ByteArray.empty
def constAt(f:Func)(region op:Nat):ByteArray:=match f.body with
 | some c=>match regionOps c region with
  | some ops=>match ops[op]? with|some o=>strOf o|none=>ByteArray.empty
  | none=>ByteArray.empty
 | none=>ByteArray.empty
section
variable {P:Program} {ops:Array Oper} {rest:List Oper} {o:Oper} {a:Act} {Q:Exit→Act→World→Prop} {w:World}
theorem kx4{S:ByteArray}{x:Operand}{t:TypeId}(S':ByteArray)(hgd:o.guard=none)(ho:o.op=Op.index t (.const (.string S)) x)(ht:P.underlying t=some .string)
 (hS:S=S') (k:IntKind) (ii:Int) (i:Nat) (hii:ii=(i:Int)) (b:UInt8) (hx:a.eval x=.int k ii) (hb:(bl S')[i]?=some b)
 (h:wpList P ops Q rest (a.put o.dst (.int .u8 (b.toNat:Int))) w):wpList P ops Q (o::rest) a w:=by
 subst hS;subst hii;have hi:i<S.size:=by
  have:=(List.getElem?_eq_some_iff.1 hb).1
  rwa [jb1]at this
 refine wpList_plain hgd fun K hK=>?_
 have hbb:S[i]'hi=b:=by
  have hi':i<(bl S).length:=by rw[jb1];exact hi
  rw[List.getElem?_eq_getElem hi']at hb;exact Option.some.inj hb
 have hev:a.eval (.const (.string S))=.string S:=rfl;have hrun:(Instr.index t (.string S) (.int k i)).run P w=.ok (.int .u8 (b.toNat:Int)) w:=by
  rw[run_index_string _ t S k i ht];simp[hi,hbb]
 unfold Oper.wp;simp[execOp,ho,hev,hx,hrun,Result.andThen];exact hK _ _ h
end
noncomputable def membersB:ByteArray:=constAt Tryz.f211 5 1
def dig(c:Int):Int:=if 97≤c then c-39-48 else c-48
theorem kd7:membersB.size=2793:=by kernel_rfl
noncomputable def memAt(i:Nat):UInt8:=(bl membersB).getD i 0
theorem kb7(i:Nat)(h:i<2793):(bl membersB)[i]?=some (memAt i):=by
 have:i<(bl membersB).length:=by rw[jb1,kd7];exact h
 unfold memAt;rw[List.getElem?_eq_getElem this,List.getD_eq_getElem?_getD,List.getElem?_eq_getElem this];rfl
theorem qs4:(bl membersB).all (fun b=>decide ((48≤b.toNat∧b.toNat≤57)∨(97≤b.toNat∧b.toNat≤102)))=true:=by decide +kernel
theorem qz8(i:Nat)(h:i<2793):(48≤((memAt i).toNat:Int)∧((memAt i).toNat:Int)≤57)∨(97≤((memAt i).toNat:Int)∧((memAt i).toNat:Int)≤102):=by
 have h1:=qs4;rw[List.all_eq_true]at h1;have h2:=h1 (memAt i) (List.mem_of_getElem? (kb7 i h));simp only[decide_eq_true_eq]at h2;omega
noncomputable def grpF(g:Nat):Nat→Int
 | 0=>0
 | j+1=>grpF g j*16+dig (memAt (g*7+j)).toNat
noncomputable def grp(g:Nat):Int:=grpF g 7
theorem vc6(i:Nat)(h:i<2793):0≤dig (memAt i).toNat∧dig (memAt i).toNat≤15:=by
 have:=qz8 i h;unfold dig;split<;>omega
theorem xd8(g j:Nat)(hg:g<399)(hj:j≤7):0≤grpF g j∧grpF g j<16^j:=by
 induction j with
 | zero=>simp[grpF]
 | succ j ih=>
  have h1:=ih (by omega);have h2:=vc6 (g*7+j) (by omega);have h3:(16:Int)^(j+1)=16^j*16:=by rw[Int.pow_succ]
  rw[grpF,h3];generalize (16:Int)^j=q at *;omega
theorem pow16(j:Nat)(hj:j≤7):(16:Int)^j≤268435456:=by
 match j,hj with
 | 0,_=>decide
 | 1,_=>decide
 | 2,_=>decide
 | 3,_=>decide
 | 4,_=>decide
 | 5,_=>decide
 | 6,_=>decide
 | 7,_=>decide
theorem kv6(g:Nat)(hg:g<399):0≤grp g∧grp g<268435456:=by
 have:=xd8 g 7 hg (by omega);have:=pow16 7 (by omega);unfold grp;omega
theorem kh6(n:Int)(h₀:0≤n)(h₁:n<2^32):IntKind.u32.wrap n=n:=by rw[IntKind.wrap_u32];omega
theorem vq2(x y:Int)(hx₀:0≤x)(hx:x%16=0)(hx₁:x<4294967296)(hy₀:0≤y)(hy:y<16):bits .or .u32 x y=x+y:=
 bits_join .u32 32 (by decide) kh6 4 x y hx₀ hx hx₁ hy₀ hy (by omega)
set_option maxRecDepth 100000 in
theorem kn5(g:Nat)(w:World)(hg:g<399):
 Calls Tryz.prog 211 #[.int .i64 g] w fun e w'=>e=.returned (.int .u32 (grp g))∧w=w':=by
 have hS:=kd7
 go_enter Tryz.func211,Tryz.ntmps211
 go_wp2
 go_loop [3,4,5] (fun n i c=>∃j:Nat,j≤7∧i=.int .i64 ((g:Int)*7+j)∧n=.int .u32 (grpF g j)) (fun _ i _=>(g*7+7-intOf i).toNat)
 case atStart=>exact⟨0,by omega,by simp,rfl⟩
 case round=>
  obtain⟨j,hj,rfl,rfl⟩:=hrel;by_cases hlt:j<7
  · have hm:=kb7 (g*7+j) (by omega)
    have hb:=qz8 (g*7+j) (by omega);have hd:=vc6 (g*7+j) (by omega);have hs:grpF g (j+1)=grpF g j*16+dig (memAt (g*7+j)).toNat:=rfl;obtain⟨h0,h1⟩:=xd8 g j hg (by omega);have h2:=pow16 j (by omega);have h3:grpF g j<268435456:=by omega
    generalize memAt (g*7+j)=b at *;have HM:=Lib.hid hm;have HS:=Lib.hid hs;clear hm hs h1 h2 hS;generalize grpF g j=n at *
    go_wp2_with (with_reducible refine kx4 membersB rfl rfl Tryz.underlying9 (by kernel_rfl) .i64 ((g:Int)*7+j) (g*7+j) (by omega) b rfl HM.out ?_)
    all_goals
     go_round
     case rel=>
      refine⟨j+1,by omega,by go_num,?_⟩;rw[HS.out];unfold dig at *
      congr 1
      first
       | (rw[if_pos (by omega)]at hd ⊢;exact vq2 _ _ (by omega) (by omega) (by omega) (by omega) (by omega))
       | (rw[if_neg (by omega)]at hd ⊢;exact vq2 _ _ (by omega) (by omega) (by omega) (by omega) (by omega))
     case measure=>simp[intOf];omega
  · have hj7:j=7:=by omega
    subst hj7
    go_wp2
    go_ret
    exact⟨rfl,rfl⟩
def pop8(i:Nat):Nat:=(List.range 8).countP fun k=>i/2^k%2==1
def pop32(n:Nat):Nat:=pop8 (n/16777216)+pop8 (n/65536%256)+pop8 (n/256%256)+pop8 (n%256)
theorem jk2(i:Nat):pop8 i≤8:=by
 unfold pop8;have:=List.countP_le_length (p:=fun k=>i/2^k%2==1) (l:=List.range 8);simpa using this
theorem kh9(x:Int)(h₀:0≤x)(h₁:x<4294967296):bits .and .u32 x 255=x%256:=bits_mask .u32 32 (by decide) kh6 8 (by decide) x h₀ h₁
set_option maxRecDepth 100000 in
theorem kz9(n:Nat)(w:World)(hn:n<4294967296):
 Calls Tryz.prog 210 #[.int .u32 n] w fun e w'=>e=.returned (.int .i64 (pop32 n))∧Below w.heap.size w w':=by
 have hP:∀(i:Nat) (h:i<(⟨#[0,1,1,2,1,2,2,3,1,2,2,3,2,3,3,4,1,2,2,3,2,3,3,4,2,3,3,4,3,4,4,5,1,2,2,3,2,3,3,4,2,3,3,4,3,4,4,5,2,3,3,4,3,4,4,5,3,4,4,5,4,5,5,6,1,2,2,3,2,3,3,4,2,3,3,4,3,4,4,5,2,3,3,4,3,4,4,5,3,4,4,5,4,5,5,6,2,3,3,4,3,4,4,5,3,4,4,5,4,5,5,6,3,4,4,5,4,5,5,6,4,5,5,6,5,6,6,7,1,2,2,3,2,3,3,4,2,3,3,4,3,4,4,5,2,3,3,4,3,4,4,5,3,4,4,5,4,5,5,6,2,3,3,4,3,4,4,5,3,4,4,5,4,5,5,6,3,4,4,5,4,5,5,6,4,5,5,6,5,6,6,7,2,3,3,4,3,4,4,5,3,4,4,5,4,5,5,6,3,4,4,5,4,5,5,6,4,5,5,6,5,6,6,7,3,4,4,5,4,5,5,6,4,5,5,6,5,6,6,7,4,5,5,6,5,6,6,7,5,6,6,7,6,7,7,8]⟩:ByteArray).size),((⟨#[0,1,1,2,1,2,2,3,1,2,2,3,2,3,3,4,1,2,2,3,2,3,3,4,2,3,3,4,3,4,4,5,1,2,2,3,2,3,3,4,2,3,3,4,3,4,4,5,2,3,3,4,3,4,4,5,3,4,4,5,4,5,5,6,1,2,2,3,2,3,3,4,2,3,3,4,3,4,4,5,2,3,3,4,3,4,4,5,3,4,4,5,4,5,5,6,2,3,3,4,3,4,4,5,3,4,4,5,4,5,5,6,3,4,4,5,4,5,5,6,4,5,5,6,5,6,6,7,1,2,2,3,2,3,3,4,2,3,3,4,3,4,4,5,2,3,3,4,3,4,4,5,3,4,4,5,4,5,5,6,2,3,3,4,3,4,4,5,3,4,4,5,4,5,5,6,3,4,4,5,4,5,5,6,4,5,5,6,5,6,6,7,2,3,3,4,3,4,4,5,3,4,4,5,4,5,5,6,3,4,4,5,4,5,5,6,4,5,5,6,5,6,6,7,3,4,4,5,4,5,5,6,4,5,5,6,5,6,6,7,4,5,5,6,5,6,6,7,5,6,6,7,6,7,7,8]⟩:ByteArray)[i]'h).toNat=pop8 i:=by
  intro i h;have h':i<256:=h;have:∀j:Fin 256,((⟨#[0,1,1,2,1,2,2,3,1,2,2,3,2,3,3,4,1,2,2,3,2,3,3,4,2,3,3,4,3,4,4,5,1,2,2,3,2,3,3,4,2,3,3,4,3,4,4,5,2,3,3,4,3,4,4,5,3,4,4,5,4,5,5,6,1,2,2,3,2,3,3,4,2,3,3,4,3,4,4,5,2,3,3,4,3,4,4,5,3,4,4,5,4,5,5,6,2,3,3,4,3,4,4,5,3,4,4,5,4,5,5,6,3,4,4,5,4,5,5,6,4,5,5,6,5,6,6,7,1,2,2,3,2,3,3,4,2,3,3,4,3,4,4,5,2,3,3,4,3,4,4,5,3,4,4,5,4,5,5,6,2,3,3,4,3,4,4,5,3,4,4,5,4,5,5,6,3,4,4,5,4,5,5,6,4,5,5,6,5,6,6,7,2,3,3,4,3,4,4,5,3,4,4,5,4,5,5,6,3,4,4,5,4,5,5,6,4,5,5,6,5,6,6,7,3,4,4,5,4,5,5,6,4,5,5,6,5,6,6,7,4,5,5,6,5,6,6,7,5,6,6,7,6,7,7,8]⟩:ByteArray)[j.val]'j.isLt).toNat=pop8 j.val:=by decide +kernel
  exact this ⟨i,h'⟩
 have m1:bits .and .u32 ((n:Int)/65536) 255=(n:Int)/65536%256:=kh9 _ (by omega) (by omega);have m2:bits .and .u32 ((n:Int)/256) 255=(n:Int)/256%256:=kh9 _ (by omega) (by omega);have m3:bits .and .u32 (n:Int) 255=(n:Int)%256:=kh9 _ (by omega) (by omega);have b1:(n:Int)/16777216<256:=by omega
 have b2:(n:Int)/65536%256<256:=by omega
 have b3:(n:Int)/256%256<256:=by omega
 have b4:(n:Int)%256<256:=by omega
 go_enter Tryz.func210,Tryz.ntmps210
 go_wp2
 go_quiet (fail)
 go_wp2
 go_ret
 have q1:=jk2 (n/16777216);have q2:=jk2 (n/65536%256);have q3:=jk2 (n/256%256);have q4:=jk2 (n%256);refine⟨jr2 ?_,bdn (Below.refl _ _) _⟩;unfold pop32;omega
def tzAt(n:Int):Int:=bits .and .u32 n (-n%4294967296)*125613361%4294967296/134217728
def tz32(n:Int):Nat:=if n=0 then 32 else Lib.deBruijn32tab.getD (tzAt n).toNat 0
theorem vq4(n:Int):0≤tzAt n∧tzAt n<32:=by
 unfold tzAt;omega
theorem tz_le:∀i:Fin 32,Lib.deBruijn32tab.getD i.val 0<32:=by decide
theorem vq5(n:Int):tz32 n≤32:=by
 unfold tz32;have h:=vq4 n;have h2:=tz_le ⟨(tzAt n).toNat,by omega⟩;simp only at h2;split<;>omega
theorem tz_any(n:Int)(w:World)(hT:TW w)(h0:0≤n)(h1:n<4294967296):
 Calls Tryz.prog 236 #[.int .u32 n] w fun e w'=>e=.returned (.int .i64 (tz32 n))∧w=w':=by
 have hb:=vq4 n;have ht:tz32 n=if n=0 then 32 else Lib.deBruijn32tab.getD (tzAt n).toNat 0:=rfl
 have hd:=hT.db (tzAt n).toNat (by omega);rw[ht];clear ht hT;by_cases hz:n=0
 · subst hz
   go_enter Tryz.func236,Tryz.ntmps236
   go_wp2
   go_ret
   exact⟨rfl,rfl⟩
 · rw[if_neg hz]
   have hr:=tz_le ⟨(tzAt n).toNat,by omega⟩;simp only at hr;generalize Lib.deBruijn32tab.getD (tzAt n).toNat 0=r at *;unfold tzAt at hd hb;obtain⟨hb0,hb1⟩:=hb;have hzB:(n==0)=false:=by simpa using hz
   go_enter Tryz.func236,Tryz.ntmps236
   go_wp2
   go_ret
   exact⟨rfl,rfl⟩
theorem jm4(n:Int)(w:World)(h0:0≤n)(h1:n<4294967296):
 Calls Tryz.prog 210 #[.int .u32 n] w fun e w'=>e=.returned (.int .i64 (pop32 n.toNat))∧Below w.heap.size w w':=by
 obtain⟨m,rfl⟩:=Int.eq_ofNat_of_zero_le h0;exact kz9 m w (by omega)
theorem kg4(n:Nat):pop32 n≤32:=by
 have q1:=jk2 (n/16777216);have q2:=jk2 (n/65536%256);have q3:=jk2 (n/256%256);have q4:=jk2 (n%256);unfold pop32;omega
theorem jj9(op:BinOp)(x y:Int):0≤bits op .u32 x y∧bits op .u32 x y<4294967296:=by
 unfold bits;simp only[IntKind.wrap_u32];omega
noncomputable def grpW(within:Bool)(g:Nat):Int:=if within then grp g else bits .xor .u32 (grp g) 268435455
def clr(n:Int):Nat→Int
 | 0=>n
 | j+1=>clr (bits .and .u32 n ((n-1)%4294967296)) j
noncomputable def chooseF(within:Bool):Nat→Nat→Nat→Int×Bool
 | 0,_,_=>(0,false)
 | f+1,g,k=>if pop32 (grpW within g).toNat≤k then chooseF within f (g+1) (k-pop32 (grpW within g).toNat)
  else(44032+(g:Int)*28+tz32 (clr (grpW within g) k),true)
noncomputable def chooseM(k:Int)(within:Bool):Int×Bool:=if k<0 then(0,false)else chooseF within 399 0 k.toNat
theorem grpW_bd(within:Bool)(g:Nat)(hg:g<399):0≤grpW within g∧grpW within g<4294967296:=by
 unfold grpW;split
 · have:=kv6 g hg;omega
 · exact jj9 _ _ _
set_option maxRecDepth 100000 in
theorem kw5(k:Int)(within:Bool)(w:World)(hT:TW w)(hk:k<40000):
 Calls Tryz.prog 220 #[.int .i64 k,.bool within] w fun e w'=>e=.returned (.tuple #[.int .i32 (chooseM k within).1,.bool (chooseM k within).2])∧Below w.heap.size w w':=by
 by_cases hneg:k<0
 · have e:chooseM k within=(0,false):=by unfold chooseM;rw[if_pos hneg]
   rw[e]
   go_enter Tryz.func220,Tryz.ntmps220
   go_wp2_with fail
   go_ret2
   exact⟨rfl,Below.refl _ _⟩
 · obtain⟨k,rfl⟩:=Int.eq_ofNat_of_zero_le (show 0≤k from by omega)
   obtain⟨R,hR⟩:∃R,R=chooseF within 399 0 k:=⟨_,rfl⟩;have e:chooseM k within=R:=by unfold chooseM;rw[if_neg hneg,Int.toNat_natCast,hR]
   rw[e];have HR:=Lib.hid hR;have HT:=Lib.hid hT;have hk0:k<40000:=by omega
   have K0:Hid (k=k):=rfl;clear e hR hT hk
   go_enter Tryz.func220,Tryz.ntmps220
   go_wp2
   go_loopw [0,6] (fun kk g wr=>∃(f i j:Nat),kk=.int .i64 (j:Int)∧g=.int .i64 (i:Int)∧i+f=399∧j<40000∧Hid (chooseF within f i j=R)∧Below w.heap.size w wr) (fun _ g _=>(399-intOf g).toNat)
   case atStart=>exact⟨399,0,k,rfl,rfl,rfl,hk0,HR.out.symm,Below.refl _ _⟩
   case round=>
    obtain⟨f,i,j,rfl,rfl,hi,hj,hR,hbel⟩:=hrel;by_cases hlt:i<399
    · obtain⟨f,rfl⟩:∃g,f=g+1:=⟨f-1,by omega⟩
      have c1:=fun w=>kn5 i w hlt
      obtain⟨g0,g1⟩:=kv6 i hlt;obtain⟨gw0,gw1⟩:=grpW_bd within i hlt;have hp:=kg4 (grpW within i).toNat;have c2:=fun w=>jm4 (grpW within i) w gw0 gw1
      have hr:=hR.out;rw[chooseF]at hr;have hgw:grpW within i=if within then grp i else bits .xor .u32 (grp i) 268435455:=rfl
      cases within
      · simp only[Bool.false_eq_true,if_false]at hgw
        generalize pop32 (grpW false i).toNat=c at *;rw[hgw]at c2 hr gw0 gw1;clear hgw hneg;generalize grp i=n at *;have C1:=Lib.hid c1;have C2:=Lib.hid c2;clear c1 c2;by_cases hc:c≤j
        · rw[if_pos hc]at hr
          have H:=Lib.hid hr;have HI:=Lib.hid hi;clear hr hi gw0 gw1
          go_wp2_with (first
           | (go_at_call 211;refine(C1.out _).mono ?_;rintro e w' ⟨rfl,rfl⟩)
           | (go_at_call 210;refine(C2.out _).mono ?_;rintro e w1 ⟨rfl,hb1⟩))
          go_roundw
          case rel=>exact⟨f,i+1,j-c,by go_num,by go_num,by have:=HI.out;omega,by omega,H.out,bt hbel hb1⟩
          case measure=>simp[intOf];omega
        · rw[if_neg hc]at hr
          have H:=Lib.hid hr;have HG:Hid (0≤bits .xor .u32 n 268435455∧bits .xor .u32 n 268435455<4294967296):=⟨gw0,gw1⟩;clear hr hi gw0 gw1
          go_wp2_with (first
           | (go_at_call 211;refine(C1.out _).mono ?_;rintro e w' ⟨rfl,rfl⟩)
           | (go_at_call 210;refine(C2.out _).mono ?_;rintro e w1 ⟨rfl,hb1⟩))
          have hbw:=bt hbel hb1;clear hbel hb1
          go_loop [0,7] (fun kk m=>∃(q:Nat) (x:Int),kk=.int .i64 (q:Int)∧m=.int .u32 x∧q≤j∧Hid (0≤x∧x<4294967296)∧Hid (clr x q=clr (bits .xor .u32 n 268435455) j)) (fun kk _=>(intOf kk).toNat)
          case atStart=>exact⟨j,_,rfl,rfl,Nat.le_refl _,HG.out,rfl⟩
          case round=>
           obtain⟨q,x,rfl,rfl,hq,hx,hcl⟩:=hrel;by_cases hq0:0<q
           · obtain⟨q,rfl⟩:∃r,q=r+1:=⟨q-1,by omega⟩
             have hx':0≤x∧x<4294967296:=hx.out;obtain⟨x0,x1⟩:=hx';have e1:clr (bits .and .u32 x ((x-1)%4294967296)) q=clr (bits .xor .u32 n 268435455) j:=hcl.out;have E1:=Lib.hid e1;clear e1
             go_wp2
             go_round
             case rel=>exact⟨q,_,by go_num,rfl,by omega,jj9 _ _ _,E1.out⟩
             case measure=>simp[intOf]
           · obtain rfl:q=0:=by omega
             have e1:x=clr (bits .xor .u32 n 268435455) j:=hcl.out;obtain⟨x0,x1⟩:=hx.out;have htz:=vq5 x;have c3:=fun w hT=>tz_any x w hT x0 x1
             have hfin:=H.out;rw[←e1]at hfin;generalize tz32 x=z at *;have C3:=Lib.hid c3;have HF:=Lib.hid hfin;clear c3 hfin e1 H
             go_wp2_with (go_at_call 236;refine(C3.out _ (HT.out.bel hbw)).mono ?_;rintro e w' ⟨rfl,rfl⟩)
             go_ret2
             exact⟨by rw[←HF.out];rfl,hbw⟩
      · simp only[if_true]at hgw
        generalize pop32 (grpW true i).toNat=c at *;rw[hgw]at c2 hr gw0 gw1;clear hgw hneg;generalize grp i=n at *;have C1:=Lib.hid c1;have C2:=Lib.hid c2;clear c1 c2;by_cases hc:c≤j
        · rw[if_pos hc]at hr
          have H:=Lib.hid hr;have HI:=Lib.hid hi;clear hr hi gw0 gw1
          go_wp2_with (first
           | (go_at_call 211;refine(C1.out _).mono ?_;rintro e w' ⟨rfl,rfl⟩)
           | (go_at_call 210;refine(C2.out _).mono ?_;rintro e w1 ⟨rfl,hb1⟩))
          go_roundw
          case rel=>exact⟨f,i+1,j-c,by go_num,by go_num,by have:=HI.out;omega,by omega,H.out,bt hbel hb1⟩
          case measure=>simp[intOf];omega
        · rw[if_neg hc]at hr
          have H:=Lib.hid hr;have HG:Hid (0≤n∧n<4294967296):=⟨gw0,gw1⟩;clear hr hi gw0 gw1
          go_wp2_with (first
           | (go_at_call 211;refine(C1.out _).mono ?_;rintro e w' ⟨rfl,rfl⟩)
           | (go_at_call 210;refine(C2.out _).mono ?_;rintro e w1 ⟨rfl,hb1⟩))
          have hbw:=bt hbel hb1;clear hbel hb1
          go_loop [0,7] (fun kk m=>∃(q:Nat) (x:Int),kk=.int .i64 (q:Int)∧m=.int .u32 x∧q≤j∧Hid (0≤x∧x<4294967296)∧Hid (clr x q=clr (n) j)) (fun kk _=>(intOf kk).toNat)
          case atStart=>exact⟨j,_,rfl,rfl,Nat.le_refl _,HG.out,rfl⟩
          case round=>
           obtain⟨q,x,rfl,rfl,hq,hx,hcl⟩:=hrel;by_cases hq0:0<q
           · obtain⟨q,rfl⟩:∃r,q=r+1:=⟨q-1,by omega⟩
             have hx':0≤x∧x<4294967296:=hx.out;obtain⟨x0,x1⟩:=hx';have e1:clr (bits .and .u32 x ((x-1)%4294967296)) q=clr (n) j:=hcl.out;have E1:=Lib.hid e1;clear e1
             go_wp2
             go_round
             case rel=>exact⟨q,_,by go_num,rfl,by omega,jj9 _ _ _,E1.out⟩
             case measure=>simp[intOf]
           · obtain rfl:q=0:=by omega
             have e1:x=clr (n) j:=hcl.out;obtain⟨x0,x1⟩:=hx.out;have htz:=vq5 x;have c3:=fun w hT=>tz_any x w hT x0 x1
             have hfin:=H.out;rw[←e1]at hfin;generalize tz32 x=z at *;have C3:=Lib.hid c3;have HF:=Lib.hid hfin;clear c3 hfin e1 H
             go_wp2_with (go_at_call 236;refine(C3.out _ (HT.out.bel hbw)).mono ?_;rintro e w' ⟨rfl,rfl⟩)
             go_ret2
             exact⟨by rw[←HF.out];rfl,hbw⟩
    · have hf0:f=0:=by omega
      subst hf0;have hr:=hR.out;rw[chooseF]at hr;have H:=Lib.hid hr;have hi9:i=399:=by omega
      subst hi9;clear hi hr
      go_wp2
      go_ret2
      exact⟨by rw[←H.out];rfl,hbel⟩
theorem vv6(k:Int)(w:World)(hT:TW w)(hk:k<40000):
 Calls Tryz.prog 218 #[.int .i64 k] w fun e w'=>e=.returned (.tuple #[.int .i32 (chooseM k true).1,.bool (chooseM k true).2])∧Below w.heap.size w w':=by
 have c1:=kw5 k true w hT hk;generalize chooseM k true=r at *;have C1:=Lib.hid c1;clear c1
 go_enter Tryz.func218,Tryz.ntmps218
 go_wp2_with (go_at_call 220;refine C1.out.mono ?_;rintro e w1 ⟨rfl,hb⟩)
 go_ret2
 exact⟨rfl,hb⟩
theorem qm5(k:Int)(w:World)(hT:TW w)(hk:k<40000):
 Calls Tryz.prog 194 #[.int .i64 k] w fun e w'=>e=.returned (.tuple #[.int .i32 (chooseM k false).1,.bool (chooseM k false).2])∧Below w.heap.size w w':=by
 have c1:=kw5 k false w hT hk;generalize chooseM k false=r at *;have C1:=Lib.hid c1;clear c1
 go_enter Tryz.func194,Tryz.ntmps194
 go_wp2_with (go_at_call 220;refine C1.out.mono ?_;rintro e w1 ⟨rfl,hb⟩)
 go_ret2
 exact⟨rfl,hb⟩
def numberM(s:Int):Int:=if 65≤s∧s≤90 then s-65 else if 97≤s∧s≤122 then s-97+26 else if 129≤s∧s≤254 then s-129+52 else -1
def secondM(n:Int):Int:=if n<26 then 65+n else if n<52 then 97+n-26 else 129+n-52
theorem vh2(s:Int)(w:World)(h0:0≤s)(h1:s≤255):
 Calls Tryz.prog 192 #[.int .i64 s] w fun e w'=>e=.returned (.int .i64 (numberM s))∧w=w':=by
 go_enter Tryz.func192,Tryz.ntmps192
 go_wp2
 all_goals go_ret
 all_goals (refine⟨jr2 ?_,rfl⟩;unfold numberM;omega)
theorem kr6(s:Int)(w:World)(h0:0≤s)(h1:s≤255):
 Calls Tryz.prog 195 #[.int .i64 s] w fun e w'=>e=.returned (.int .i64 (secondM s))∧w=w':=by
 go_enter Tryz.func195,Tryz.ntmps195
 go_wp2
 all_goals go_ret
 all_goals (refine⟨jr2 ?_,rfl⟩;unfold secondM;omega)
noncomputable def popSum:Nat→Nat
 | 0=>0
 | g+1=>popSum g+pop32 (grp g).toNat
theorem qg9(g:Nat):popSum g≤32*g:=by
 induction g with
 | zero=>simp[popSum]
 | succ g ih=>have:=kg4 (grp g).toNat;rw[popSum];omega
def lowBits(n p:Int):Int:=bits .and .u32 n ((2^((p-44032)%28).toNat-1)%4294967296)
def ownBit(n p:Int):Int:=bits .and .u32 n (2^((p-44032)%28).toNat%4294967296)
noncomputable def rankOwn(p:Int):Int:=(popSum ((p-44032)/28).toNat+pop32 (lowBits (grp ((p-44032)/28).toNat) p).toNat:Nat)
noncomputable def rankIn(p:Int):Bool:=!decide (ownBit (grp ((p-44032)/28).toNat) p=0)
noncomputable def rankM(p:Int):Int:=if rankIn p then rankOwn p else p-44032-rankOwn p
theorem rank_out(p:Int)(w:World)(h0 : -2147483648≤p)(h1:p≤2147483647)(h:p<44032∨55203<p):
 Calls Tryz.prog 180 #[.int .i32 p] w fun e w'=>e=.returned (.tuple #[.int .i64 0,.bool false,.bool false])∧Below w.heap.size w w':=by
 rcases h with h|h
 all_goals (
  go_enter Tryz.func180,Tryz.ntmps180
  go_wp2
  go_ret3
  exact⟨rfl,Below.refl _ _⟩)
set_option maxRecDepth 100000 in
theorem qz3(p:Int)(w:World)(hp0:44032≤p)(hp1:p≤55203):
 Calls Tryz.prog 180 #[.int .i32 p] w fun e w'=>e=.returned (.tuple #[.int .i64 (rankM p),.bool (rankIn p),.bool true])∧Below w.heap.size w w':=by
 go_enter Tryz.func180,Tryz.ntmps180
 go_wp2
 go_loopw [6,7] (fun own g wr=>∃i:Nat,g=.int .i64 (i:Int)∧own=.int .i64 (popSum i:Int)∧(i:Int)≤(p-44032)/28∧Below w.heap.size w wr) (fun _ g _=>((p-44032)/28-intOf g).toNat)
 case atStart=>exact⟨0,rfl,rfl,by omega,Below.refl _ _⟩
 case round=>
  obtain⟨i,rfl,rfl,hi,hbel⟩:=hrel;by_cases hlt:(i:Int)<(p-44032)/28
  · have c1:=fun w=>kn5 i w (by omega)
    obtain⟨g0,g1⟩:=kv6 i (by omega);have c2:=fun w=>jm4 (grp i) w (by omega) (by omega)
    have hs:popSum (i+1)=popSum i+pop32 (grp i).toNat:=rfl;have hp:=kg4 (grp i).toNat;have hpl:=qg9 i;generalize pop32 (grp i).toNat=c at *;generalize grp i=n at *;generalize popSum i=s at *;have C1:=Lib.hid c1;have C2:=Lib.hid c2;have HS:=Lib.hid hs;clear c1 c2 hs g0 g1
    go_wp2_with (first
     | (go_at_call 211;refine(C1.out _).mono ?_;rintro e w' ⟨rfl,rfl⟩)
     | (go_at_call 210;refine(C2.out _).mono ?_;rintro e w1 ⟨rfl,hb1⟩))
    go_roundw
    case rel=>exact⟨i+1,by go_num,by rw[HS.out];go_num,by omega,bt hbel hb1⟩
    case measure=>simp[intOf];omega
  · have hi2:(i:Int)=(p-44032)/28:=by omega
    have c1:=fun w=>kn5 i w (by omega)
    obtain⟨g0,g1⟩:=kv6 i (by omega);rw[hi2]at c1;have hpl:=qg9 i;have hi3:(i:Int)<399:=by omega
    have it:((p-44032)/28).toNat=i:=by omega
    have ho:rankOwn p=(popSum i+pop32 (lowBits (grp i) p).toNat:Nat):=by unfold rankOwn;rw[it]
    have hI:rankIn p = !decide (ownBit (grp i) p=0):=by unfold rankIn;rw[it]
    have hM:rankM p=if rankIn p then rankOwn p else p-44032-rankOwn p:=rfl
    have c2:=fun w=>jm4 (lowBits (grp i) p) w (jj9 _ _ _).1 (jj9 _ _ _).2
    have hpc:=kg4 (lowBits (grp i) p).toNat;generalize pop32 (lowBits (grp i) p).toNat=c at *;generalize popSum i=s at *;generalize grp i=n at *;have C1:=Lib.hid c1;have C2:=Lib.hid c2;have H2:=Lib.hid hi2;rw[ho]at hM;by_cases hz:ownBit n p=0
    · rw[hI,hz]at hM
      have HI:Hid (rankIn p=false):=by show rankIn p=false;rw[hI,hz];rfl
      have HM:=Lib.hid hM;have hzB:(bits .and .u32 n (2^((p-44032)%28).toNat%4294967296) != 0)=false:=by simpa[ownBit]using hz
      clear c1 c2 hi2 ho hI hM hz it
      go_wp2_with fail
      with_reducible refine(C1.out _).mono ?_
      rintro e w1 ⟨rfl,rfl⟩
      go_wp2_with fail
      unfold lowBits at C2
      with_reducible refine(C2.out _).mono ?_
      rintro e w1 ⟨rfl,hb1⟩
      go_wp2_with fail
      go_ret3
      exact⟨by rw[HM.out,HI.out];simp,bt hbel hb1⟩
    · have hI':rankIn p=true:=by rw[hI];simpa using hz
      rw[hI']at hM;have HI:=Lib.hid hI';have HM:=Lib.hid hM;have hzB:(bits .and .u32 n (2^((p-44032)%28).toNat%4294967296) != 0)=true:=by simpa[ownBit]using hz
      clear c1 c2 hi2 ho hI hI' hM hz it
      go_wp2_with fail
      with_reducible refine(C1.out _).mono ?_
      rintro e w1 ⟨rfl,rfl⟩
      go_wp2_with fail
      unfold lowBits at C2
      with_reducible refine(C2.out _).mono ?_
      rintro e w1 ⟨rfl,hb1⟩
      go_wp2_with fail
      go_ret3
      exact⟨by rw[HM.out,HI.out];simp,bt hbel hb1⟩
end Go.Proofs.YtagjkmkmphamoaaGreatDoor
