/- Wi -/
import Derived.Test.YtagjkmkmphamoaaGreatDoorPPo
set_option linter.all false
set_option maxHeartbeats 2000000
namespace Go.Proofs.YtagjkmkmphamoaaGreatDoor
open Go.RowKit
theorem xd4(x y:Int)(hx₀:0≤x)(hx:x%256=0)(hx₁:x<2147483648)(hy₀:0≤y)(hy:y<256):bits .or .i32 x y=x+y:=
 bits_join .i32 31 (by decide) wraps_i32 8 x y hx₀ hx hx₁ hy₀ hy (by omega)
def unitI(x y:UInt8)(big:Bool):Int:=if big then(x.toNat:Int)*256+y.toNat else(y.toNat:Int)*256+x.toNat
theorem kf6(x y:UInt8)(big:Bool):0≤unitI x y big∧unitI x y big<65536:=by
 have:=x.toNat_lt;have:=y.toNat_lt;unfold unitI;split<;>omega
def AtB(s:ByteArray)(k:Nat)(x:UInt8):Prop:=∀(h:k<s.size),s[k]'h=x
theorem jc7(s:ByteArray)(k:Nat)(x:UInt8)(h:(bl s)[k]?=some x):AtB s k x:=by
 intro hk;have e:(bl s)[k]?=some (s[k]'hk):=by
  have hk':k<(bl s).length:=by rw[jb1];exact hk
  rw[List.getElem?_eq_getElem hk'];rfl
 rw[h]at e;exact(Option.some.inj e).symm
theorem qx3(s:ByteArray)(k:Nat)(x y:UInt8)(big:Bool)(w:World)(hs:s.size≤1073741824)(hk:k+1<s.size)(hx:AtB s k x)(hy:AtB s (k+1) y):
 Calls Tryz.prog 179 #[.string s,.int .i64 k,.bool big] w fun e w'=>e=.returned (.int .i32 (unitI x y big))∧Below w.heap.size w w':=by
 have hxl:=x.toNat_lt;have hyl:=y.toNat_lt;have hk0:k<s.size:=by omega
 have X:∀h,s[k]'h=x:=hx;have Y:∀h,s[k+1]'h=y:=hy;have e1:bits .or .i32 ((x.toNat:Int)*256) y.toNat=(x.toNat:Int)*256+y.toNat:=xd4 _ _ (by omega) (by omega) (by omega) (by omega) (by omega);have e2:bits .or .i32 ((y.toNat:Int)*256) x.toNat=(y.toNat:Int)*256+x.toNat:=xd4 _ _ (by omega) (by omega) (by omega) (by omega) (by omega);have e3:IntKind.i64.wrap ((k:Int)+1)=(k:Int)+1:=by rw[jf2];omega;omega
 have e4:(0:Int)≤(k:Int)+1:=by omega
 have e5:((k:Int)+1).toNat=k+1:=by omega
 have e6:IntKind.i32.wrap ((x.toNat:Int)*256)=(x.toNat:Int)*256:=by rw[wraps_i32];omega;omega
 have e7:IntKind.i32.wrap ((y.toNat:Int)*256)=(y.toNat:Int)*256:=by rw[wraps_i32];omega;omega
 cases big
 · go_enter Tryz.func179,Tryz.ntmps179
   go_wp2
   go_quiet (fail)
   go_wp2
   go_ret
   exact⟨jr2 (by unfold unitI;simp),bdn (Below.refl _ _) _⟩
 · go_enter Tryz.func179,Tryz.ntmps179
   go_wp2
   go_quiet (fail)
   go_wp2
   go_ret
   exact⟨jr2 (by unfold unitI;simp),bdn (Below.refl _ _) _⟩
def wsign(big:Bool):List UInt8→Int×Nat
 | x::y::r=>if unitI x y big<55296∨57344≤unitI x y big then(unitI x y big,2)else match r with
  | z::u::_=>if 56320≤unitI x y big then(0,0)else if unitI z u big<56320∨57344≤unitI z u big then(0,0)
   else(65536+(unitI x y big-55296)*1024+(unitI z u big-56320),4)
  | _=>(0,0)
 | _=>(0,0)
theorem vc5{l:List UInt8}{k:Nat}(h:k+1<l.length):∃x y,l[k]?=some x∧l[k+1]?=some y∧l.drop k=x::y::l.drop (k+2):=by
 refine⟨l[k],l[k+1],List.getElem?_eq_getElem (by omega),List.getElem?_eq_getElem h,?_⟩;rw[List.drop_eq_getElem_cons (by omega),List.drop_eq_getElem_cons (by omega)]
theorem vp3(s:ByteArray)(k:Nat)(big:Bool)(w:World)(hs:s.size≤1073741824)(hk:k≤s.size):
 Calls Tryz.prog 153 #[.string s,.int .i64 k,.bool big] w fun e w'=>
  e=.returned (.tuple #[.int .i32 (wsign big ((bl s).drop k)).1,.int .i64 (wsign big ((bl s).drop k)).2])∧Below w.heap.size w w':=by
 have hL:=jb1 s;by_cases h2:k+1<s.size
 · obtain⟨x,y,hx,hy,hd⟩:=vc5 (l:=bl s) (k:=k) (by omega)
   have c1:=fun w=>qx3 s k x y big w hs h2 (jc7 s k x hx) (jc7 s (k+1) y hy)
   have b1:=kf6 x y big;rw[hd];by_cases hlow:unitI x y big<55296∨57344≤unitI x y big
   · have er:wsign big (x::y::(bl s).drop (k+2))=(unitI x y big,2):=by rw[wsign.eq_def];simp only;rw[if_pos hlow]
     rw[er];generalize unitI x y big=u at *;have C1:=Lib.hid c1;clear c1 hx hy hd er hL;obtain⟨b0,b1⟩:=b1;rcases hlow with h|h
     all_goals (
      go_enter Tryz.func153,Tryz.ntmps153
      go_wp2_with (go_at_call 179;refine(C1.out _).mono ?_;rintro e w1 ⟨rfl,hb1⟩)
      go_ret2
      exact⟨rfl,hb1⟩)
   · by_cases h4:k+3<s.size
     · obtain⟨z,u,hz,hu,hd2⟩:=vc5 (l:=bl s) (k:=k+2) (by omega)
       have c2:=fun w=>qx3 s (k+2) z u big w hs h4 (jc7 s (k+2) z hz) (jc7 s (k+2+1) u hu)
       rw[show((k+2:Nat):Int)=(k:Int)+2 from by omega]at c2;have b2:=kf6 z u big;rw[hd2];have er:wsign big (x::y::z::u::(bl s).drop (k+2+2))=if 56320≤unitI x y big then(0,0)else if unitI z u big<56320∨57344≤unitI z u big then(0,0)
        else(65536+(unitI x y big-55296)*1024+(unitI z u big-56320),4):=by rw[wsign.eq_def];simp only;rw[if_neg hlow]
       rw[er];generalize unitI x y big=f at *;generalize unitI z u big=g at *;have C1:=Lib.hid c1;have C2:=Lib.hid c2;clear c1 c2 hx hy hz hu hd hd2 er hL;obtain⟨a0,a1⟩:55296≤f∧f<57344:=by omega
       clear hlow b1;obtain⟨b0,b1⟩:=b2;rcases(show 56320≤f∨(f<56320∧g<56320)∨(f<56320∧56320≤g∧57344≤g)∨(f<56320∧56320≤g∧g<57344) from by omega)with c|⟨c,d⟩|⟨c,d,d'⟩|⟨c,d,d'⟩
       · rw[if_pos c]
         go_enter Tryz.func153,Tryz.ntmps153
         go_wp2_with (go_at_call 179;refine(C1.out _).mono ?_;rintro e w1 ⟨rfl,hb1⟩)
         go_ret2
         exact⟨rfl,hb1⟩
       · rw[if_neg (by omega),if_pos (by omega)]
         go_enter Tryz.func153,Tryz.ntmps153
         go_wp2_with fail
         refine(C1.out _).mono ?_;rintro e w1 ⟨rfl,hb1⟩
         go_wp2_with fail
         refine(C2.out _).mono ?_;rintro e w2 ⟨rfl,hb2⟩
         go_wp2_with fail
         go_ret2
         exact⟨rfl,bt hb1 hb2⟩
       · rw[if_neg (by omega),if_pos (by omega)]
         go_enter Tryz.func153,Tryz.ntmps153
         go_wp2_with fail
         refine(C1.out _).mono ?_;rintro e w1 ⟨rfl,hb1⟩
         go_wp2_with fail
         refine(C2.out _).mono ?_;rintro e w2 ⟨rfl,hb2⟩
         go_wp2_with fail
         go_ret2
         exact⟨rfl,bt hb1 hb2⟩
       · rw[if_neg (by omega),if_neg (by omega)]
         go_enter Tryz.func153,Tryz.ntmps153
         go_wp2_with fail
         refine(C1.out _).mono ?_;rintro e w1 ⟨rfl,hb1⟩
         go_wp2_with fail
         refine(C2.out _).mono ?_;rintro e w2 ⟨rfl,hb2⟩
         go_wp2_with fail
         go_ret2
         exact⟨rfl,bt hb1 hb2⟩
     · have hlen:((bl s).drop (k+2)).length<2:=by rw[List.length_drop];omega
       have er:wsign big (x::y::(bl s).drop (k+2))=(0,0):=by
        rw[wsign.eq_def];simp only;rw[if_neg hlow]
        match(bl s).drop (k+2),hlen with
        | [],_=>rfl
        | [z],_=>rfl
        | z::u::r,h=>simp at h;omega
       rw[er];generalize unitI x y big=f at *;have C1:=Lib.hid c1;clear c1 hx hy hd er hL hlen;obtain⟨a0,a1⟩:55296≤f∧f<57344:=by omega
       clear hlow b1;by_cases c:56320≤f
       all_goals (
        go_enter Tryz.func153,Tryz.ntmps153
        go_wp2_with (go_at_call 179;refine(C1.out _).mono ?_;rintro e w1 ⟨rfl,hb1⟩)
        go_ret2
        exact⟨rfl,hb1⟩)
 · have hlen:((bl s).drop k).length<2:=by rw[List.length_drop];omega
   have er:wsign big ((bl s).drop k)=(0,0):=by
    match(bl s).drop k,hlen with
    | [],_=>rfl
    | [z],_=>rfl
    | z::u::r,h=>simp at h;omega
   rw[er];clear er hlen hL
   go_enter Tryz.func153,Tryz.ntmps153
   go_wp2_with fail
   go_ret2
   exact⟨rfl,Below.refl _ _⟩
def tokW(big:Bool):Tok:=fun l=>if(wsign big l).2=0 then none else some (encR (wsign big l).1,(wsign big l).2)
theorem qx1(big:Bool)(l:List UInt8):0≤(wsign big l).1∧(wsign big l).1<1114112∧(wsign big l).2≤l.length∧(wsign big l).2≤4:=by
 match l with
 | []=>simp[wsign]
 | [x]=>simp[wsign]
 | x::y::r=>
  have b1:=kf6 x y big;rw[wsign.eq_def];simp only;split
  · simp;omega
  · match r with
    | []=>simp
    | [z]=>simp
    | z::u::q=>
     have b2:=kf6 z u big;simp only;split
     · simp
     · split
       · simp
       · simp;omega
theorem jf3{tok:Tok}(f:Nat)(l:List UInt8)(k:Nat)(acc:List UInt8)(t:List UInt8)(j:Nat)(hne:l ≠ [])(h:tok l=some (t,j)):
 runT tok (f+1) l k acc=runT tok f (l.drop j) (k+j) (acc++t):=by
 rw[runT,if_neg hne,h]
theorem jh1{tok:Tok}(f:Nat)(l:List UInt8)(k:Nat)(acc:List UInt8)(hne:l ≠ [])(h:tok l=none):runT tok (f+1) l k acc=([],some k):=by
 rw[runT,if_neg hne,h]
theorem kg1{tok:Tok}(f:Nat)(k:Nat)(acc:List UInt8):runT tok f [] k acc=(acc,none):=by cases f<;>simp[runT]
theorem js4{l:List UInt8}{k:Nat}(h:k<l.length):l.drop k ≠ []:=by
 intro e;have:=congrArg List.length e;rw[List.length_drop]at this;simp at this;omega
theorem qp7(s:ByteArray)(big:Bool)(w:World)(hs:s.size≤1073741824):
 Calls Tryz.prog 127 #[.string s,.bool big] w fun e w'=>
  e=.returned (.tuple #[.string ⟨(decT (tokW big) (bl s)).1.toArray⟩,faultV (decT (tokW big) (bl s)).2])∧Below w.heap.size w w':=by
 have hL:=jb1 s;obtain⟨R,hR⟩:∃R,R=decT (tokW big) (bl s):=⟨_,rfl⟩;have HR:=Lib.hid hR;rw[←hR];clear hR;have l0:=Live.fresh w #[.int .i64 0,.int .i64 0] 54 0 _ rfl;have l1:=Live.fresh w #[.int .i64 0,.int .i64 0] 54 1 _ rfl;have hb0:Below w.heap.size w (w.alloc (.cells #[.int .i64 0,.int .i64 0] 54)):=(Below.refl _ _).alloc (Nat.le_refl _) _;have hW0:=hb0.size
 go_enter Tryz.func127,Tryz.ntmps127
 go_wp2
 generalize hW:w.alloc (.cells #[.int .i64 0,.int .i64 0] 54)=W at *;clear hW
 go_loopw [6,7] (fun v at_ wr=>∃(f k:Nat) (acc:List UInt8),at_=.int .i64 (k:Int)∧Own wr W.heap.size v acc∧k≤s.size∧acc.length≤4*k∧s.size-k≤f∧Hid (runT (tokW big) f ((bl s).drop k) k acc=R)∧Below W.heap.size W wr) (fun _ at_ _=>s.size-(intOf at_).toNat)
 case atStart=>exact⟨s.size,0,[],rfl,Own.nil _ _,Nat.zero_le _,by simp,by omega,by have:=HR.out;unfold decT at this;rw[hL]at this;rw[List.drop_zero];exact this.symm,Below.refl _ _⟩
 case round=>
  obtain⟨f,k,acc,rfl,hown,hk,ha,hf,hR,hbel⟩:=hrel;have hbw:=hb0.trans (hbel.mono hW0);by_cases hlt:k<s.size
  · obtain⟨f,rfl⟩:∃g,f=g+1:=⟨f-1,by omega⟩
    have hne:(bl s).drop k ≠ []:=js4 (by omega);have c1:=fun w=>vp3 s k big w hs hk
    have hbd:=qx1 big ((bl s).drop k);rw[List.length_drop,hL]at hbd;have ht:tokW big ((bl s).drop k)=if(wsign big ((bl s).drop k)).2=0 then none else some (encR (wsign big ((bl s).drop k)).1,(wsign big ((bl s).drop k)).2):=rfl
    rcases hp:wsign big ((bl s).drop k)with⟨p,j⟩
    rw[hp]at c1 hbd ht;simp only at c1 hbd ht;obtain⟨p0,p1,j0,j1⟩:=hbd;have C1:=Lib.hid c1;by_cases hj:j=0
    · rw[if_pos hj]at ht
      have e1:=jh1 (tok:=tokW big) f _ k acc hne ht;rw[hR.out]at e1;have E1:=Lib.hid e1;subst hj;have y0:=l0.keep hbel;have y1:=l1.keep hbel;clear c1 hp ht hne e1 l0 l1 hL
      go_wp2_with (go_at_call 153;refine(C1.out _).mono ?_;rintro e w1 ⟨rfl,hb1⟩;obtain⟨a1,a2⟩:=y0.keep hb1;obtain⟨a3,a4⟩:=y1.keep hb1)
      refine bodyPost_ret (v:=.tuple #[.string ⟨#[]⟩,.agg #[.int .i64 2,.int .i64 k]]) (by simp[results,Tryz.results127,go_sem,a1,a2,a3,a4]) rfl ⟨?_,?_⟩
      · rw[E1.out];rfl
      · exact((bt hbw hb1).setCell (Nat.le_refl _) _).setCell (Nat.le_refl _) _
    · rw[if_neg hj]at ht
      have e1:=jf3 (tok:=tokW big) f _ k acc _ _ hne ht;rw[hR.out,List.drop_drop]at e1;have E1:=Lib.hid e1;have hel:=jj2 p;have hjB:((j:Int)==0)=false:=by simp;omega
      have hj1:1≤j:=by omega
      clear c1 hp ht hne e1 l0 l1 hL hj
      go_wp2_with (first
       | (go_at_call 153;refine(C1.out _).mono ?_;rintro e w1 ⟨rfl,hb1⟩)
       | (go_at_call 150;refine(jh0 W.heap.size _ acc p _ (by omega) (by omega) (hown.bel hb1) (by omega) (by have:=hbel.size;have:=hb1.size;omega)).mono ?_;rintro e w2 ⟨v',rfl,hown2,hb2⟩))
      go_roundw
      case rel=>exact⟨f,k+j,acc++encR p,by go_num,hown2,by omega,by rw[List.length_append];omega,by omega,E1.out.symm,(hbel.trans (hb1.mono hbel.size)).trans hb2⟩
      case measure=>simp[intOf];omega
  · have hkk:k=s.size:=by omega
    subst hkk;have e1:runT (tokW big) f ((bl s).drop s.size) s.size acc=(acc,none):=by
     rw[List.drop_of_length_le (by omega)];exact kg1 f _ acc
    rw[hR.out]at e1;have E1:=Lib.hid e1;obtain⟨a1,a2⟩:=l0.keep hbel;obtain⟨a3,a4⟩:=l1.keep hbel;have hcv:=jq6 hown;clear e1 l0 l1 hL
    go_wp2
    refine bodyPost_ret (v:=.tuple #[.string ⟨acc.toArray⟩,.agg #[.int .i64 0,.int .i64 0]]) (by simp[results,Tryz.results127,go_sem,a1,a2,a3,a4]) rfl ⟨?_,?_⟩
    · rw[E1.out];rfl
    · exact(hbw.setCell (Nat.le_refl _) _).setCell (Nat.le_refl _) _
end Go.Proofs.YtagjkmkmphamoaaGreatDoor
