/- A9 -/
import Derived.Test.YtagjkmkmphamoaaGreatDoorPA8
set_option linter.all false
namespace Go.Proofs.YtagjkmkmphamoaaGreatDoor
open Go.RowKit
structure PG where
 fl:UInt8
 po:Nat
 se:Nat
 nu:Nat
 la:ByteArray
 bo:ByteArray
def totL(l:List UInt8):Nat:=(l.map UInt8.toNat).sum
theorem jc8(a b:List UInt8):totL (a++b)=totL a+totL b:=by simp[totL]
theorem kj0(c:UInt8)(l:List UInt8):totL (c::l)=c.toNat+totL l:=by simp[totL]
def gcheckM(p:PG):Int:=if 255<p.la.size then 4 else if p.bo.size≠totL (bl p.la)then 5 else 0
theorem leN_leL:∀(k:Nat) (n:Nat),n<256^k→leN (leL n k)=n:=by
 intro k
 induction k with
 | zero=>intro n h;simp at h;subst h;rfl
 | succ k ih=>
  intro n h;rw[leL,leN];have e1:((n:Int)%256).toNat=n%256:=by omega
  have e2:(n:Int)/256=((n/256:Nat):Int):=by omega
  rw[e1,e2,ih (n/256) (by rw[Nat.pow_succ]at h;omega),UInt8.toNat_ofNat'];omega
theorem kb9(n:Int):∀k,(leL n k).length=k:=by
 intro k
 induction k generalizing n with
 | zero=>rfl
 | succ k ih=>rw[leL,List.length_cons,ih]
def gpartsL(p:PG)(four:List UInt8):List UInt8:=[79,103,103,83] ++ [0] ++ [p.fl]++leL p.po 8++leL p.se 4++leL p.nu 4++four ++ [UInt8.ofNat p.la.size]++bl p.la++bl p.bo
section
variable (crc:List UInt8→Nat)
def gsumM(p:PG):Nat:=crc (gpartsL p [0,0,0,0])
def gprintL(p:PG):List UInt8:=gpartsL p (leL (gsumM crc p) 4)
def smallR(x:RS)(k:Nat):RS×Nat:=((takeR x k).1,leN (bl (takeR x k).2))
def oggS:ByteArray:=⟨#[79,103,103,83]⟩
def zeroB:ByteArray:=⟨#[0]⟩
def gheadR(x:RS):RS×PG×Nat×Int:=
 let f:=bigR (wantR (wantR x oggS).1 zeroB).1 1
 let po:=smallR f.1 8
 let se:=smallR po.1 4
 let nu:=smallR se.1 4
 let four:=smallR nu.1 4
 let n:=bigR four.1 1
 let la:=takeR n.1 n.2
 let bo:=takeR la.1 (totL (bl la.2))
 (bo.1,⟨UInt8.ofNat f.2,po.2,se.2,nu.2,la.2,bo.2⟩,four.2,(nu.1.b:Int)+nu.1.n)
def gparR(x:RS):RS×Option PG:=
 if x.e≠0∨leftR x=0 then(x,none)else
 if(gheadR x).1.e≠0 then((gheadR x).1,none)else
 if gsumM crc (gheadR x).2.1≠(gheadR x).2.2.1 then(failR (gheadR x).1 1 (gheadR x).2.2.2,none)else((gheadR x).1,some (gheadR x).2.1)
def gG(p:PG):Prop:=p.la.size≤255∧p.bo.size=totL (bl p.la)∧p.po<18446744073709551616∧p.se<4294967296∧p.nu<4294967296
theorem jj7(p:PG):gcheckM p=0↔p.la.size≤255∧p.bo.size=totL (bl p.la):=by
 unfold gcheckM;split
 · exact⟨fun h=>absurd h (by decide),fun h=>by omega⟩
 · split
   · next h=>exact⟨fun h=>absurd h (by decide),fun h'=>absurd h'.2 h⟩
   · next h=>exact⟨fun _=>⟨by omega,by simpa using h⟩,fun _=>rfl⟩
theorem kv8(p:PG)(four:List UInt8)(h:four.length=4):(gpartsL p four).length=27+p.la.size+p.bo.size:=by
 unfold gpartsL;simp only[List.length_append,List.length_cons,List.length_nil,kb9,h,jb1]
theorem jg7(p:PG):(gprintL crc p).length=27+p.la.size+p.bo.size:=kv8 p _ (kb9 _ _)
theorem Rest.small{x:RS}{n k:Nat}{q:List UInt8}(hn:n<256^k)(h:Rest x (leL n k++q)):Rest (adv x k) q∧smallR x k=(adv x k,n):=by
 have h1:=h.step;rw[kb9]at h1;refine⟨h1.1,?_⟩;unfold smallR;rw[h1.2];show(adv x k,leN (leL n k))=_;rw[leN_leL k n hn]
theorem Rest.want{x:RS}{p q:List UInt8}(h:Rest x (p++q)):Rest (adv x p.length) q∧(wantR x ⟨p.toArray⟩).1=adv x p.length:=by
 obtain⟨h1,h2⟩:=h.step;refine⟨h1,?_⟩;obtain⟨g0,g1,g2⟩:=h;have hl:=congrArg List.length g2;simp only[List.length_drop,jb1,List.length_append]at hl;have hfd:∀(a b:List UInt8) (i:Nat),firstDiff a (a++b) i=none:=by
  intro a
  induction a with
  | nil=>intro b i;cases b<;>rfl
  | cons c r ih=>intro b i;rw[List.cons_append,firstDiff,if_pos rfl];exact ih b (i+1)
 have hb:bl (⟨p.toArray⟩:ByteArray)=p:=by simp[bl]
 unfold wantR;rw[if_neg (by simpa using g0),g2,hb,hfd];simp only;have hs:(⟨p.toArray⟩:ByteArray).size=p.length:=by rw[←jb1,hb]
 rw[if_neg (by rw[hs];omega),hs]
 rfl
theorem Rest.big1{x:RS}{n:Nat}{q:List UInt8}(hn:n<256)(h:Rest x ([UInt8.ofNat n]++q)):Rest (adv x 1) q∧bigR x 1=(adv x 1,n):=by
 have h1:=h.step;refine⟨h1.1,?_⟩;unfold bigR;have h2:takeR x ((1:Nat):Int)=_:=h1.2;rw[h2];show(adv x 1,beN [UInt8.ofNat n])=_;have:beN [UInt8.ofNat n]=n:=by
  show 0*256+(UInt8.ofNat n).toNat=n;rw[UInt8.toNat_ofNat'];omega
 rw[this]
theorem vj9{x:RS}(p:PG)(s:Nat)(hs:s<4294967296)(hg:gG p){q:List UInt8}(h:Rest x (gpartsL p (leL s 4)++q)):
 Rest (adv x (27+p.la.size+p.bo.size)) q∧(gheadR x).1=adv x (27+p.la.size+p.bo.size)∧(gheadR x).2.1=p∧(gheadR x).2.2.1=s:=by
 obtain⟨g1,g2,g3,g4,g5⟩:=hg;unfold gpartsL at h;simp only[List.append_assoc]at h;obtain⟨h1,e1⟩:=h.want;obtain⟨h2,e2⟩:=h1.want;have hf:([p.fl]:List UInt8) = [UInt8.ofNat p.fl.toNat]:=by rw[UInt8.ofNat_toNat]
 rw[hf]at h2;obtain⟨h3,e3⟩:=h2.big1 p.fl.toNat_lt;obtain⟨h4,e4⟩:=h3.small (k:=8) (by omega);obtain⟨h5,e5⟩:=h4.small (k:=4) (by omega);obtain⟨h6,e6⟩:=h5.small (k:=4) (by omega);obtain⟨h7,e7⟩:=h6.small (k:=4) (by omega);obtain⟨h8,e8⟩:=h7.big1 (by omega);obtain⟨h9,e9⟩:=h8.step;obtain⟨h10,e10⟩:=h9.step;simp only[jb1]at e9 e10;have w1:(wantR x oggS).1=_:=e1;have w2:(wantR _ zeroB).1=_:=e2;have m1:(⟨(bl p.la).toArray⟩:ByteArray)=p.la:=js2 p.la;have m2:(⟨(bl p.bo).toArray⟩:ByteArray)=p.bo:=js2 p.bo;rw[m1]at e9;rw[m2]at e10;unfold gheadR;simp only;rw[w1,w2,e3];simp only;rw[e4];simp only;rw[e5];simp only;rw[e6];simp only;rw[e7];simp only;rw[e8];simp only;rw[e9];simp only;rw[←g2,e10];simp only;simp only[jq8,List.length_cons,List.length_nil,jb1]at h10 ⊢;have e:0+1+1+1+1+(0+1)+1+8+4+4+4+1+p.la.size+p.bo.size=27+p.la.size+p.bo.size:=by omega
 rw[e]at h10 ⊢;refine⟨h10,?_,?_,?_⟩<;>simp
theorem qk9(hc:∀l,crc l<4294967296){x:RS}(p:PG)(hg:gG p){q:List UInt8}(h:Rest x (gprintL crc p++q)):
 Rest (adv x (gprintL crc p).length) q∧gparR crc x=(adv x (gprintL crc p).length,some p):=by
 rw[jg7];have hl:=h.left;rw[List.length_append,jg7]at hl;have h0:=h.1;obtain⟨a1,a2,a3,a4⟩:=vj9 p (gsumM crc p) (hc _) hg h;refine⟨a1,?_⟩;unfold gparR;rw[if_neg (by rintro(h|h)<;>omega),a2,a3,a4,if_neg (by simpa using a1.1),if_neg (by simp)]
theorem vq8(x:RS)(k:Nat)(h:(takeR x k).1.e=0):x.e=0∧(takeR x k).1=adv x k∧(takeR x k).2=x.s.extract x.n (x.n+k)∧x.n+k≤x.s.size∨x.s.size<x.n:=by
 have he:=takeR_e x k h;unfold takeR at h ⊢;rw[if_neg (by simpa using he)]at h ⊢;split
 · next c=>rw[if_pos c]at h;exact absurd h (jp3 _ _ _ (by decide))
 · next c=>
   by_cases hn:x.s.size<x.n
   · exact .inr hn
   · refine .inl ⟨he,rfl,rfl,by omega⟩
theorem jk8(x:RS)(k:Nat)(hx:x.n≤x.s.size)(h:(takeR x k).1.e=0):x.e=0∧(takeR x k).1=adv x k∧(takeR x k).2.size=k∧x.n+k≤x.s.size:=by
 rcases vq8 x k h with⟨a,b,c,d⟩|h
 · exact⟨a,b,by rw[c,ByteArray.size_extract];omega,d⟩
 · omega
theorem qx2(x:RS)(t:ByteArray)(hx:x.n≤x.s.size)(h:(wantR x t).1.e=0):x.e=0∧(wantR x t).1=adv x t.size∧x.n+t.size≤x.s.size:=by
 unfold wantR at h ⊢;split
 · next c=>rw[if_pos c]at h;exact absurd h c
 · next c=>
   rw[if_neg c]at h;cases hf:firstDiff (bl t) ((bl x.s).drop x.n) 0 with
   | some i=>rw[hf]at h;exact absurd h (jp3 _ _ _ (by decide))
   | none=>
    rw[hf]at h;simp only at h ⊢;split
    · next d=>rw[if_pos d]at h;exact absurd h (jp3 _ _ _ (by decide))
    · next d=>exact⟨by simpa using c,rfl,by omega⟩
theorem jp9(x:RS)(k:Nat)(h:(takeR x k).2.size≤k):(smallR x k).2<256^k:=by
 unfold smallR;have:=vb2 (bl (takeR x k).2);rw[jb1]at this;exact Nat.lt_of_lt_of_le this (Nat.pow_le_pow_right (by decide) h)
theorem jk9(x:RS)(k:Nat):(takeR x k).2.size≤k:=by
 unfold takeR;split
 · exact Nat.zero_le _
 · split
   · exact Nat.zero_le _
   · show(x.s.extract _ _).size≤_
     rw[ByteArray.size_extract];omega
theorem qd6(x:RS):(bigR x 1).2<256:=by
 unfold bigR;have h:=jk9 x 1;have h2:(bl (takeR x ((1:Nat):Int)).2).length≤1:=by rw[jb1];exact h
 match hb:bl (takeR x ((1:Nat):Int)).2,h2 with
 | [],_=>show beN []<256;decide
 | [b],_=>
  show 0*256+b.toNat<256;have:=b.toNat_lt;omega
def nle(x:RS):Prop:=x.n≤x.s.size
theorem qb3{x:RS}(h:nle x)(e a:Int):nle (failR x e a):=by unfold failR;split<;>exact h
theorem jq2{x:RS}(h:nle x)(k:Int):nle (takeR x k).1:=by
 unfold takeR;split
 · exact h
 · split
   · exact qb3 h _ _
   · unfold nle at h ⊢;simp only;omega
theorem qz7{x:RS}(h:nle x)(t:ByteArray):nle (wantR x t).1:=by
 unfold wantR;split
 · exact h
 · split
   · exact qb3 h _ _
   · split
     · exact qb3 h _ _
     · unfold nle at h ⊢;simp only;omega
theorem vj8(x:RS)(hx:x.n≤x.s.size)(h:(gheadR x).1.e=0):
 gG (gheadR x).2.1∧(gheadR x).1=adv x (27+(gheadR x).2.1.la.size+(gheadR x).2.1.bo.size)∧(gheadR x).1.n≤x.s.size:=by
 unfold gheadR at h ⊢;simp only at h ⊢;have n1:=qz7 (x:=x) hx oggS;generalize hw1:(wantR x oggS).1=w1 at *;have n2:=qz7 n1 zeroB;generalize hw2:(wantR w1 zeroB).1=w2 at *;have n3:nle (bigR w2 1).1:=jq2 n2 _;have l3:=qd6 w2;generalize hf:bigR w2 1=f at *;have n4:nle (smallR f.1 8).1:=jq2 n3 _;have l4:=jp9 f.1 8 (jk9 _ _);generalize hpo:smallR f.1 8=po at *;have n5:nle (smallR po.1 4).1:=jq2 n4 _;have l5:=jp9 po.1 4 (jk9 _ _);generalize hse:smallR po.1 4=se at *;have n6:nle (smallR se.1 4).1:=jq2 n5 _;have l6:=jp9 se.1 4 (jk9 _ _);generalize hnu:smallR se.1 4=nu at *;have n7:nle (smallR nu.1 4).1:=jq2 n6 _;generalize hfo:smallR nu.1 4=fo at *;have n8:nle (bigR fo.1 1).1:=jq2 n7 _;have l8:=qd6 fo.1;generalize hn:bigR fo.1 1=n at *;have n9:nle (takeR n.1 n.2).1:=jq2 n8 _;generalize hla:takeR n.1 n.2=la at *;generalize hbo:takeR la.1 (totL (bl la.2))=bo at *;obtain⟨e9,a10,s10,z10⟩:=jk8 la.1 (totL (bl la.2)) n9 (by rw[hbo];exact h);obtain⟨e8,a9,s9,z9⟩:=jk8 n.1 n.2 n8 (by rw[hla];exact e9);obtain⟨e7,a8,_,z8⟩:=jk8 fo.1 1 n7 (by have:(takeR fo.1 ((1:Nat):Int)).1=n.1:=(by rw[←hn];rfl);rw[this];exact e8);obtain⟨e6,a7,_,z7⟩:=jk8 nu.1 4 n6 (by have:(takeR nu.1 ((4:Nat):Int)).1=fo.1:=(by rw[←hfo];rfl);rw[this];exact e7);obtain⟨e5,a6,_,z6⟩:=jk8 se.1 4 n5 (by have:(takeR se.1 ((4:Nat):Int)).1=nu.1:=(by rw[←hnu];rfl);rw[this];exact e6);obtain⟨e4,a5,_,z5⟩:=jk8 po.1 4 n4 (by have:(takeR po.1 ((4:Nat):Int)).1=se.1:=(by rw[←hse];rfl);rw[this];exact e5);obtain⟨e3,a4,_,z4⟩:=jk8 f.1 8 n3 (by have:(takeR f.1 ((8:Nat):Int)).1=po.1:=(by rw[←hpo];rfl);rw[this];exact e4);obtain⟨e2,a3,_,z3⟩:=jk8 w2 1 n2 (by have:(takeR w2 ((1:Nat):Int)).1=f.1:=(by rw[←hf];rfl);rw[this];exact e3);obtain⟨e1,a2,z2⟩:=qx2 w1 zeroB n1 (by rw[hw2];exact e2);obtain⟨e0,a1,z1⟩:=qx2 x oggS hx (by rw[hw1];exact e1);have b1:w1=adv x 4:=by rw[←hw1,a1];rfl
 have b2:w2=adv x 5:=by rw[←hw2,a2,b1];rfl
 have b3:f.1=adv x 6:=by rw[←hf];show(takeR w2 ((1:Nat):Int)).1=_;rw[a3,b2];rfl
 have b4:po.1=adv x 14:=by rw[←hpo];show(takeR f.1 ((8:Nat):Int)).1=_;rw[a4,b3];rfl
 have b5:se.1=adv x 18:=by rw[←hse];show(takeR po.1 ((4:Nat):Int)).1=_;rw[a5,b4];rfl
 have b6:nu.1=adv x 22:=by rw[←hnu];show(takeR se.1 ((4:Nat):Int)).1=_;rw[a6,b5];rfl
 have b7:fo.1=adv x 26:=by rw[←hfo];show(takeR nu.1 ((4:Nat):Int)).1=_;rw[a7,b6];rfl
 have b8:n.1=adv x 27:=by rw[←hn];show(takeR fo.1 ((1:Nat):Int)).1=_;rw[a8,b7];rfl
 rw[hla]at a9 s9;rw[hbo]at a10 s10;have b9:la.1=adv x (27+la.2.size):=by rw[a9,b8,jq8,s9]
 have b10:bo.1=adv x (27+la.2.size+bo.2.size):=by rw[a10,b9,jq8,s10]
 refine⟨⟨by simp only;omega,by simp only;exact s10,by simp only;omega,by simp only;omega,by simp only;omega⟩,b10,?_⟩;rw[a10];show la.1.n+totL (bl la.2)≤_;rw[b9]at z10 ⊢;exact z10
theorem qk8(x y:RS)(p:PG)(hx:x.n≤x.s.size)(h:gparR crc x=(y,some p)):gG p∧y=adv x (27+p.la.size+p.bo.size)∧y.n≤x.s.size∧y.e=0:=by
 unfold gparR at h;split at h
 · simp at h
 · split at h
   · simp at h
   · next he=>
     split at h
     · simp at h
     · simp only[Prod.mk.injEq,Option.some.injEq]at h
       obtain⟨rfl,rfl⟩:=h;have he:(gheadR x).1.e=0:=by simpa using he
       obtain⟨a,b,c⟩:=vj8 x hx he;exact⟨a,b,c,he⟩
end
section
variable (crc:List UInt8→Nat)
def pagesF:Nat→RS→List PG→List Nat→(List PG×List Nat)×RS
 | 0,x,l,a=>((l,a),x)
 | f+1,x,l,a=>match gparR crc x with
  | (y,none)=>((l,a),y)
  | (y,some p)=>if l.length=1048576 then((l,a),failR y 4 ((x.b:Int)+x.n))else pagesF f y (l ++ [p]) (a ++ [x.b+x.n])
def pagesM(s:ByteArray):(List PG×List Nat)×Int×Int:=
 if(pagesF crc (s.size+1) ⟨s,0,0,0,0⟩ [] []).2.e≠0 then(([],[]),(pagesF crc (s.size+1) ⟨s,0,0,0,0⟩ [] []).2.e,(pagesF crc (s.size+1) ⟨s,0,0,0,0⟩ [] []).2.a)
 else((pagesF crc (s.size+1) ⟨s,0,0,0,0⟩ [] []).1,0,0)
def placesL:Nat→List PG→List Nat
 | _,[]=>[]
 | n,p::r=>n::placesL (n+(gprintL crc p).length) r
theorem kt2(hc:∀l,crc l<4294967296):∀(l:List PG) (f:Nat) (x:RS) (acc:List PG) (pl:List Nat),(∀p∈l,gG p)→l.length<f→acc.length+l.length≤1048576→Rest x (l.flatMap (gprintL crc)) →
 pagesF crc f x acc pl=((acc++l,pl++placesL crc (x.b+x.n) l),adv x (l.flatMap (gprintL crc)).length)
 | [],f,x,acc,pl,_,hf,_,h=>by
  obtain⟨f,rfl⟩:∃g,f=g+1:=⟨f-1,by simp at hf;omega⟩;have hl:=h.left;have hg:gparR crc x=(x,none):=by unfold gparR;rw[if_pos (.inr (by simpa using hl))]
  rw[pagesF,hg];simp[placesL,adv]
 | p::r,f,x,acc,pl,hp,hf,ha,h=>by
  rw[List.length_cons]at hf ha;obtain⟨f,rfl⟩:∃g,f=g+1:=⟨f-1,by omega⟩;rw[List.flatMap_cons]at h;obtain⟨h1,h2⟩:=qk9 crc hc p (hp p (by simp)) h;rw[pagesF,h2];simp only;rw[if_neg (by omega),kt2 hc r f _ _ _ (fun q hq=>hp q (by simp[hq])) (by omega) (by rw[List.length_append,List.length_cons,List.length_nil];omega) h1];rw[List.flatMap_cons,List.length_append,jq8];simp only[placesL,adv,List.append_assoc,List.cons_append,List.nil_append,Nat.add_assoc]
def gsz(p:PG):Nat:=27+p.la.size+p.bo.size
theorem vg5:∀(f:Nat) (x:RS) (acc:List PG) (pl:List Nat),x.n≤x.s.size→x.b=0→(∀p∈acc,gG p)→(acc.map gsz).sum=x.n→pl.length=acc.length→acc.length≤1048576→(pagesF crc f x acc pl).2.e=0 →
 (∀p∈(pagesF crc f x acc pl).1.1,gG p)∧((pagesF crc f x acc pl).1.1.map gsz).sum≤x.s.size∧(pagesF crc f x acc pl).1.2.length=(pagesF crc f x acc pl).1.1.length∧(pagesF crc f x acc pl).1.1.length≤1048576:=by
 intro f
 induction f with
 | zero=>intro x acc pl hx hb hg hs hp hn _;rw[pagesF];exact⟨hg,by simp only;omega,hp,hn⟩
 | succ f ih=>
  intro x acc pl hx hb hg hs hp hn he;rw[pagesF]at he ⊢;rcases hgp:gparR crc x with⟨y,o⟩
  rw[hgp]at he;cases o with
  | none=>exact⟨hg,by simp only;omega,hp,hn⟩
  | some p=>
   simp only at he ⊢;obtain⟨g1,g2,g3,g4⟩:=qk8 crc x y p hx hgp;split
   · exact⟨hg,by simp only;omega,hp,hn⟩
   · next hne=>
     rw[if_neg hne]at he;have hys:y.s=x.s:=by rw[g2];rfl
     have hyn:y.n=x.n+gsz p:=by rw[g2];rfl
     have:=ih y (acc ++ [p]) (pl ++ [x.b+x.n]) (by rw[hys];exact g3) (by rw[g2];exact hb) (fun q hq=>by
      rcases List.mem_append.1 hq with h|h
      · exact hg q h
      · simp at h;subst h;exact g1) (by rw[List.map_append,List.sum_append,hs,hyn];simp) (by simp[hp]) (by rw[List.length_append,List.length_cons,List.length_nil];omega) he
     rw[hys]at this;exact this
end
def cutG:List UInt8→List UInt8→List UInt8→List (List UInt8)×List UInt8
 | [],_,part=>([],part)
 | c::r,b,part=>if c=255 then cutG r (b.drop 255) (part++b.take 255)else((part++b.take c.toNat)::(cutG r (b.drop c.toNat) []).1,(cutG r (b.drop c.toNat) []).2)
theorem jq5:∀(l1 l2 b1 b2 part:List UInt8),totL l1=b1.length →
 cutG (l1++l2) (b1++b2) part=((cutG l1 b1 part).1++(cutG l2 b2 (cutG l1 b1 part).2).1,(cutG l2 b2 (cutG l1 b1 part).2).2)
 | [],l2,b1,b2,part,h=>by
  have:b1 = []:=List.eq_nil_of_length_eq_zero (by rw[←h];rfl);subst this;simp[cutG]
 | c::r,l2,b1,b2,part,h=>by
  rw[kj0]at h;rw[List.cons_append,cutG,cutG];by_cases hc:c=255
  · have hcn:c.toNat=255:=by rw[hc];rfl
    rw[if_pos hc,if_pos hc,List.drop_append_of_le_length (by omega),List.take_append_of_le_length (by omega),jq5 r l2 _ b2 _ (by rw[List.length_drop];omega)]
  · rw[if_neg hc,if_neg hc,List.drop_append_of_le_length (by omega),List.take_append_of_le_length (by omega),jq5 r l2 _ b2 _ (by rw[List.length_drop];omega)]
    simp
def laceL(n:Nat):List UInt8:=List.replicate (n/255) 255 ++ [UInt8.ofNat (n%255)]
theorem kg9(n:Nat):totL (laceL n)=n:=by
 have hr:∀k,totL (List.replicate k 255)=255*k:=by
  intro k
  induction k with
  | zero=>rfl
  | succ k ih=>rw[List.replicate_succ,kj0,ih];show 255+_=_;omega
 unfold laceL;rw[jc8,hr];show 255*(n/255)+((UInt8.ofNat (n%255)).toNat+0)=n;rw[UInt8.toNat_ofNat'];omega
theorem cut_lace:∀(k m:Nat) (b part:List UInt8),m<255→b.length=255*k+m→cutG (List.replicate k 255 ++ [UInt8.ofNat m]) b part=([part++b],[]):=by
 intro k
 induction k with
 | zero=>
  intro m b part hm hb;have hn:¬UInt8.ofNat m=255:=by
   intro h;have:=congrArg UInt8.toNat h;rw[UInt8.toNat_ofNat']at this;have h2:(255:UInt8).toNat=255:=rfl;omega
  have ht:(UInt8.ofNat m).toNat=m:=by rw[UInt8.toNat_ofNat'];omega
  rw[List.replicate_zero,List.nil_append,cutG,if_neg hn,ht,List.take_of_length_le (by omega)]
  rfl
 | succ k ih=>
  intro m b part hm hb;rw[List.replicate_succ,List.cons_append,cutG,if_pos rfl,ih m _ _ hm (by rw[List.length_drop];omega),List.append_assoc,List.take_append_drop]
theorem kp0:∀ps:List (List UInt8),cutG (ps.flatMap fun p=>laceL p.length) ps.flatten []=(ps,[])
 | []=>rfl
 | p::r=>by
  rw[List.flatMap_cons,List.flatten_cons,jq5 _ _ _ _ _ (kg9 _)];have:=cut_lace (p.length/255) (p.length%255) p [] (Nat.mod_lt _ (by decide)) (by omega);unfold laceL at this ⊢;rw[this,List.nil_append];simp only;rw[show(r.flatMap fun p=>List.replicate (p.length/255) 255 ++ [UInt8.ofNat (p.length%255)])=r.flatMap fun p=>laceL p.length from rfl,kp0 r]
  rfl
def contG(p:PG):Bool:=p.fl.toNat%2==1
def firstG(p:PG):Bool:=p.fl.toNat/2%2==1
def openL(op:Bool)(l:List UInt8):Bool:=match l.getLast? with
 | none=>op
 | some c=>c==255
def joinG:List PG→Nat→Bool→List (List UInt8)→List UInt8→List (List UInt8)×Int×Int
 | [],i,op,ps,_=>if op=true then([],1,i)else(ps,0,0)
 | p::r,i,op,ps,part=>if gcheckM p≠0∨contG p≠op then([],1,i)else joinG r (i+1) (openL op (bl p.la)) (ps++(cutG (bl p.la) (bl p.bo) part).1) (cutG (bl p.la) (bl p.bo) part).2
def pageO(se nu:Nat)(la bo:List UInt8)(op:Bool):PG:=⟨if op=true then 1 else 0,if la.all (· == 255)=true then 18446744073709551615 else 0,se,nu%4294967296,⟨la.toArray⟩,⟨bo.toArray⟩⟩
def pagesO(se:Nat):Nat→Nat→List UInt8→List UInt8→Bool→List PG
 | 0,_,_,_,_=>[]
 | f+1,nu,la,bo,op=>if la = []then []else pageO se nu (la.take 255) (bo.take (totL (la.take 255))) op::pagesO se f (nu+1) (la.drop 255) (bo.drop (totL (la.take 255))) (openL op (la.take 255))
theorem jg5(op:Bool)(a b:List UInt8):openL (openL op a) b=openL op (a++b):=by
 unfold openL;rw[List.getLast?_append];cases b.getLast? with
 | none=>simp
 | some c=>simp
theorem blL(l:List UInt8):bl (⟨l.toArray⟩:ByteArray)=l:=by simp[bl]
theorem szL(l:List UInt8):(⟨l.toArray⟩:ByteArray).size=l.length:=by rw[←jb1,blL]
theorem kt6(se nu:Nat)(la bo:List UInt8)(op:Bool)(h1:la.length≤255)(h2:bo.length=totL la)(hs:se<4294967296):gG (pageO se nu la bo op)∧contG (pageO se nu la bo op)=op∧firstG (pageO se nu la bo op)=false:=by
 refine⟨⟨by show(⟨la.toArray⟩:ByteArray).size≤255;rw[szL];exact h1,?_,?_,hs,Nat.mod_lt _ (by decide)⟩,?_,?_⟩
 · show(⟨bo.toArray⟩:ByteArray).size=totL (bl ⟨la.toArray⟩)
   rw[szL,blL];exact h2
 · show(if la.all (· == 255)=true then 18446744073709551615 else 0)<_
   split<;>decide
 · cases op<;>simp[contG,pageO]
 · cases op<;>simp[firstG,pageO]
theorem vj3(se:Nat)(hs:se<4294967296):∀(f nu:Nat) (la bo:List UInt8) (op:Bool) (j:Nat) (ps:List (List UInt8)) (part:List UInt8) (rest:List PG),la.length≤255*f→bo.length=totL la →
 joinG (pagesO se f nu la bo op++rest) j op ps part=joinG rest (j+(pagesO se f nu la bo op).length) (openL op la) (ps++(cutG la bo part).1) (cutG la bo part).2:=by
 intro f
 induction f with
 | zero=>
  intro nu la bo op j ps part rest h1 h2;have:la = []:=List.eq_nil_of_length_eq_zero (by omega);subst this;simp[pagesO,cutG,openL]
 | succ f ih=>
  intro nu la bo op j ps part rest h1 h2;rw[pagesO];split
  · next h=>subst h;simp[cutG,openL]
  · next h=>
    have ht:totL (la.take 255)≤bo.length:=by
     rw[h2]
     conv=>rhs;rw[←List.take_append_drop 255 la,jc8]
     omega
    have hb:(bo.take (totL (la.take 255))).length=totL (la.take 255):=by rw[List.length_take];omega
    have hd:(bo.drop (totL (la.take 255))).length=totL (la.drop 255):=by
     rw[List.length_drop,h2]
     conv=>lhs;lhs;rw[←List.take_append_drop 255 la,jc8]
     omega
    obtain⟨g1,g2,_⟩:=kt6 se nu (la.take 255) (bo.take (totL (la.take 255))) op (by rw[List.length_take];omega) hb hs;rw[List.cons_append,joinG,if_neg (by
     rintro(h|h)
     · exact h ((jj7 _).2 ⟨g1.1,g1.2.1⟩)
     · exact h g2)]
    have e1:bl (pageO se nu (la.take 255) (bo.take (totL (la.take 255))) op).la=la.take 255:=blL _;have e2:bl (pageO se nu (la.take 255) (bo.take (totL (la.take 255))) op).bo=bo.take (totL (la.take 255)):=blL _;rw[e1,e2,ih _ _ _ _ _ _ _ _ (by rw[List.length_drop];omega) hd,jg5,List.take_append_drop];have hc:=jq5 (la.take 255) (la.drop 255) (bo.take (totL (la.take 255))) (bo.drop (totL (la.take 255))) part hb.symm;rw[List.take_append_drop,List.take_append_drop]at hc;rw[hc,List.length_cons,List.append_assoc];simp only
    congr 1
    omega
def endsN(l:List UInt8):Nat:=l.countP (· != 255)
theorem jm2(a b:List UInt8):endsN (a++b)=endsN a+endsN b:=List.countP_append ..
def secondF:List PG→Nat→Nat→Option Nat
 | [],_,_=>none
 | p::r,i,n=>if 2≤n+endsN (bl p.la)then some i else secondF r (i+1) (n+endsN (bl p.la))
theorem qf8(se:Nat):∀(f nu:Nat) (la bo:List UInt8) (op:Bool) (i n:Nat) (rest:List PG),la.length≤255*f→la ≠ []→openL true la=false→n+endsN la=2 →
 secondF (pagesO se f nu la bo op++rest) i n=some (i+(pagesO se f nu la bo op).length-1)∧0<(pagesO se f nu la bo op).length:=by
 intro f
 induction f with
 | zero=>
  intro nu la bo op i n rest h1 h2;exact absurd (List.eq_nil_of_length_eq_zero (by omega)) h2
 | succ f ih=>
  intro nu la bo op i n rest h1 h2 h3 h4;rw[pagesO,if_neg h2,List.cons_append,secondF];have e1:bl (pageO se nu (la.take 255) (bo.take (totL (la.take 255))) op).la=la.take 255:=blL _;rw[e1];by_cases hd:la.drop 255 = []
  · have ht:la.take 255=la:=by
     have:=List.take_append_drop 255 la;rw[hd,List.append_nil]at this;exact this
    rw[ht,if_pos (by omega),hd];have hp:pagesO se f (nu+1) [] (bo.drop (totL la)) (openL op la) = []:=by
     cases f with
     | zero=>rfl
     | succ f=>rw[pagesO,if_pos rfl]
    rw[hp];simp
  · have he:endsN la=endsN (la.take 255)+endsN (la.drop 255):=by
     conv=>lhs;rw[←List.take_append_drop 255 la,jm2]
    have hl:openL true (la.drop 255)=false:=by
     have hs:=jg5 true (la.take 255) (la.drop 255);rw[List.take_append_drop,h3]at hs;unfold openL at hs ⊢;cases hg:(la.drop 255).getLast? with
     | none=>exact absurd (List.getLast?_eq_none_iff.1 hg) hd
     | some c=>rw[hg]at hs;exact hs
    have h0:0<endsN (la.drop 255):=by
     unfold openL at hl;cases hg:(la.drop 255).getLast? with
     | none=>exact absurd (List.getLast?_eq_none_iff.1 hg) hd
     | some c=>
      rw[hg]at hl;have hm:=List.mem_of_getLast? hg;exact List.countP_pos_iff.2 ⟨c,hm,by simpa[bne]using hl⟩
    rw[if_neg (by omega)];obtain⟨a,b⟩:=ih (nu+1) (la.drop 255) (bo.drop (totL (la.take 255))) (openL op (la.take 255)) (i+1) (n+endsN (la.take 255)) rest (by rw[List.length_drop];omega) hd hl (by omega);rw[a,List.length_cons];exact⟨by congr 1;omega,by omega⟩
structure OS where
 first:PG
 b:Bk
 setup:ByteArray
 sound:List PG
def vorb(n:UInt8):List UInt8:=[n,118,111,114,98,105,115]
def preM(s p:List UInt8):Bool:=decide (s.take p.length=p)
def opensG(p:PG):Bool:=decide ((joinG [p] 0 false [] []).2.1=0)&&decide ((joinG [p] 0 false [] []).1.length=1)&&firstG p&&preM ((joinG [p] 0 false [] []).1.headD []) (vorb 1)
def strayF(se:Nat):List PG→Nat→Option Nat
 | [],_=>none
 | p::r,i=>if p.se≠se∨p.nu≠i%4294967296∨(0<i∧firstG p=true)then some i else strayF se r (i+1)
def noOS:OS:=⟨⟨0,0,0,0,⟨#[]⟩,⟨#[]⟩⟩,⟨⟨#[]⟩,0,[]⟩,⟨#[]⟩,[]⟩
def contO:Option PG→Bool
 | some p=>contG p
 | none=>false
def pairM(size:Nat)(r:List PG)(at_:List Nat):(List (List UInt8)×Nat) ⊕ Nat:=
 match secondF r 1 0 with
 | none=>.inr size
 | some k=>
  if(joinG (r.take k) 0 false [] []).2.1≠0∧(joinG (r.take k) 0 false [] []).2.2<k then .inr (at_.getD (1+(joinG (r.take k) 0 false [] []).2.2.toNat) 0)
  else if(joinG (r.take k) 0 false [] []).2.1≠0∨(joinG (r.take k) 0 false [] []).1.length≠2 then .inr (at_.getD k 0)
  else if contO r[k]?=true then .inr (at_.getD (k+1) 0)
  else .inl ((joinG (r.take k) 0 false [] []).1,k)
section
variable (crc:List UInt8→Nat) (R:List UInt8→Int)
noncomputable def notesO(a:List UInt8):RS×Option Bk:=parseR R true (wantR ⟨⟨a.toArray⟩,0,0,0,0⟩ ⟨(vorb 3).toArray⟩).1
noncomputable def tailM(s:ByteArray)(p0:PG)(r:List PG)(at_:List Nat):OS×Int×Int:=
 match pairM s.size r at_ with
 | .inr a=>(noOS,1,a)
 | .inl (ps,k)=>
  if(notesO R (ps.getD 0 [])).1.e≠0 then(noOS,(notesO R (ps.getD 0 [])).1.e,(at_.getD 1 0:Nat))
  else if preM (ps.getD 1 []) (vorb 5)=false then(noOS,1,(at_.getD k 0:Nat))
  else(⟨p0,(notesO R (ps.getD 0 [])).2.getD noBk,⟨(ps.getD 1 []).toArray⟩,r.drop k⟩,0,0)
noncomputable def oparM(s:ByteArray):OS×Int×Int:=
 if(pagesM crc s).2.1≠0 then(noOS,(pagesM crc s).2.1,(pagesM crc s).2.2)else
 match(pagesM crc s).1.1 with
 | []=>(noOS,1,0)
 | p0::r=>match strayF p0.se (p0::r) 0 with
  | some i=>(noOS,1,((pagesM crc s).1.2.getD i 0:Nat))
  | none=>if opensG p0=false then(noOS,1,0)else tailM R s p0 r (pagesM crc s).1.2
def soundF(se:Nat):List PG→Nat→Int×Int
 | [],_=>(0,0)
 | p::r,i=>if gcheckM p≠0∨p.se≠se∨firstG p=true∨(i=0∧contG p=true)then(5,3+(i:Int))else soundF se r (i+1)
def ocheckM(s:OS):Int×Int:=
 if opensG s.first=false∨s.first.nu≠0 then(5,0)else if(checkM s.b).1≠0 then((checkM s.b).1,1)else if preM (bl s.setup) (vorb 5)=false then(5,2)else soundF s.first.se s.sound 0
def pktsO(s:OS):List (List UInt8):=[vorb 3++printL true s.b,bl s.setup]
def lacesO(s:OS):List UInt8:=(pktsO s).flatMap fun p=>laceL p.length
def midO(s:OS):List PG:=pagesO s.first.se (lacesO s).length 1 (lacesO s) (pktsO s).flatten false
def renumL:Nat→List PG→List PG
 | _,[]=>[]
 | n,p::r=>{ p with nu:=n%4294967296 }::renumL (n+1) r
def opagesL(s:OS):List PG:=s.first::midO s++renumL (1+(midO s).length) s.sound
def oprintL(s:OS):List UInt8:=(opagesL s).flatMap (gprintL crc)
def gO(s:OS):Prop:=gG s.first∧∀p∈s.sound,gG p
def backO(s:OS):OS:=⟨s.first,utfBk s.b,s.setup,renumL (1+(midO s).length) s.sound⟩
theorem vb3(s:OS):lacesO s ≠ []:=by
 unfold lacesO pktsO laceL;simp
theorem qj5(n:Nat):endsN (laceL n)=1:=by
 unfold laceL;rw[jm2];have h1:∀k,endsN (List.replicate k 255)=0:=by
  intro k;unfold endsN;rw[List.countP_eq_zero];intro a ha;rw[List.mem_replicate]at ha;simp[ha.2]
 have h2:(UInt8.ofNat (n%255) != 255)=true:=by
  rw[bne_iff_ne];intro h;have:=congrArg UInt8.toNat h;rw[UInt8.toNat_ofNat']at this;have h2:(255:UInt8).toNat=255:=rfl;omega
 rw[h1];unfold endsN;simp[List.countP_cons,h2]
theorem xc3(s:OS):endsN (lacesO s)=2:=by
 unfold lacesO pktsO;simp only[List.flatMap_cons,List.flatMap_nil,List.append_nil];rw[jm2,qj5,qj5]
theorem xc4(op:Bool)(l:List UInt8)(n:Nat):openL op (l++laceL n)=false:=by
 unfold laceL;rw[←List.append_assoc];unfold openL;rw[List.getLast?_append];simp only[List.getLast?_singleton,Option.some_or];rw[beq_eq_false_iff_ne];intro h;have:=congrArg UInt8.toNat h;rw[UInt8.toNat_ofNat']at this;have h2:(255:UInt8).toNat=255:=rfl;omega
theorem kv2(op:Bool)(s:OS):openL op (lacesO s)=false:=by
 unfold lacesO pktsO;simp only[List.flatMap_cons,List.flatMap_nil,List.append_nil];exact xc4 op _ _
theorem km8(s:OS):(pktsO s).flatten.length=totL (lacesO s):=by
 unfold lacesO pktsO;simp only[List.flatMap_cons,List.flatMap_nil,List.append_nil,List.flatten_cons,List.flatten_nil];rw[jc8,kg9,kg9,List.length_append]
theorem mid_join(s:OS)(hs:s.first.se<4294967296):joinG (midO s) 0 false [] []=(pktsO s,0,0):=by
 have h:=vj3 s.first.se hs (lacesO s).length 1 (lacesO s) (pktsO s).flatten false 0 [] [] [] (by omega) (km8 s)
 rw[List.append_nil,kv2]at h;have hc:=kp0 (pktsO s);rw[show((pktsO s).flatMap fun p=>laceL p.length)=lacesO s from rfl]at hc;rw[hc]at h;unfold midO;rw[h];simp[joinG]
theorem vh6(s:OS)(rest:List PG):secondF (midO s++rest) 1 0=some (midO s).length:=by
 obtain⟨a,b⟩:=qf8 s.first.se (lacesO s).length 1 (lacesO s) (pktsO s).flatten false 1 0 rest (by omega) (vb3 s) (kv2 true s) (by rw[xc3])
 unfold midO;rw[a]
 congr 1
 omega
theorem kt5(se:Nat)(hs:se<4294967296):∀(f nu:Nat) (la bo:List UInt8) (op:Bool),bo.length=totL la→∀(k:Nat) (p:PG),(pagesO se f nu la bo op)[k]?=some p→gG p∧p.se=se∧p.nu=(nu+k)%4294967296∧firstG p=false:=by
 intro f
 induction f with
 | zero=>intro nu la bo op h k p hp;simp[pagesO]at hp
 | succ f ih=>
  intro nu la bo op h2 k p hp;rw[pagesO]at hp;split at hp
  · simp at hp
  · have ht:totL (la.take 255)≤bo.length:=by
     rw[h2]
     conv=>rhs;rw[←List.take_append_drop 255 la,jc8]
     omega
    have hb:(bo.take (totL (la.take 255))).length=totL (la.take 255):=by rw[List.length_take];omega
    have hd:(bo.drop (totL (la.take 255))).length=totL (la.drop 255):=by
     rw[List.length_drop,h2]
     conv=>lhs;lhs;rw[←List.take_append_drop 255 la,jc8]
     omega
    obtain⟨g1,_,g3⟩:=kt6 se nu (la.take 255) (bo.take (totL (la.take 255))) op (by rw[List.length_take];omega) hb hs;cases k with
    | zero=>
     simp at hp;subst hp;exact⟨g1,rfl,rfl,g3⟩
    | succ k=>
     obtain⟨a,b,c,d⟩:=ih _ _ _ _ hd k p (by simpa using hp);exact⟨a,b,by rw[c];congr 1;omega,d⟩
theorem jm0:∀(l:List PG) (n k:Nat) (p:PG),(renumL n l)[k]?=some p→∃q,l[k]?=some q∧p = { q with nu:=(n+k)%4294967296 }
 | [],n,k,p,h=>by simp[renumL]at h
 | q::r,n,0,p,h=>by
  simp[renumL]at h;exact⟨q,rfl,h.symm⟩
 | q::r,n,k+1,p,h=>by
  obtain⟨q',a,b⟩:=jm0 r (n+1) k p (by simpa[renumL]using h);exact⟨q',by simpa using a,by rw[b];congr 2;omega⟩
theorem jh2:∀(l:List PG) (n:Nat),(renumL n l).length=l.length
 | [],_=>rfl
 | _::r,n=>by rw[renumL,List.length_cons,List.length_cons,jh2 r]
theorem kk8:∀(l:List PG) (n m:Nat),renumL n (renumL m l)=renumL n l
 | [],_,_=>rfl
 | p::r,n,m=>by simp only[renumL];rw[kk8 r]
theorem kr4(se:Nat):∀(l:List PG) (i:Nat),(∀(k:Nat) (p:PG),l[k]?=some p→p.se=se∧p.nu=(i+k)%4294967296∧(0<i+k→firstG p=false))→strayF se l i=none
 | [],_,_=>rfl
 | p::r,i,h=>by
  obtain⟨a,b,c⟩:=h 0 p rfl;rw[strayF,if_neg (by
   rintro(h|h|⟨h,h'⟩)
   · exact h a
   · exact h b
   · have:=c h;rw[this]at h';cases h'),kr4 se r (i+1) fun k q hq=>by
   obtain⟨a,b,c⟩:=h (k+1) q (by simpa using hq);exact⟨a,by rw[b];congr 1;omega,fun hp=>c (by omega)⟩]
theorem js8(se:Nat):∀(l:List PG) (i:Nat),soundF se l i=(0,0)↔∀(k:Nat) (p:PG),l[k]?=some p→gcheckM p=0∧p.se=se∧firstG p=false∧(i+k=0→contG p=false)
 | [],i=>by simp[soundF]
 | p::r,i=>by
  rw[soundF];split
  · next h=>
    constructor
    · intro e
      have:=congrArg Prod.fst e;exact absurd (show(5:Int)=0 from this) (by decide)
    · intro e
      obtain⟨a,b,c,d⟩:=e 0 p rfl;rcases h with h|h|h|⟨h,h'⟩
      · exact absurd a h
      · exact absurd b h
      · rw[c]at h;cases h
      · rw[d (by omega)]at h';cases h'
  · next h=>
    rw[js8 se r (i+1)]
    constructor
    · intro e k q hq
      cases k with
      | zero=>
       simp at hq;subst hq;refine⟨?_,?_,?_,?_⟩
       · exact Classical.byContradiction fun x=>h (.inl x)
       · exact Classical.byContradiction fun x=>h (.inr (.inl x))
       · exact Bool.eq_false_iff.2 fun x=>h (.inr (.inr (.inl x)))
       · exact fun hz=>Bool.eq_false_iff.2 fun x=>h (.inr (.inr (.inr ⟨by omega,x⟩)))
      | succ k=>
       obtain⟨a,b,c,d⟩:=e k q (by simpa using hq);exact⟨a,b,c,fun hz=>by omega⟩
    · intro e k q hq
      obtain⟨a,b,c,d⟩:=e (k+1) q (by simpa using hq);exact⟨a,b,c,fun hz=>by omega⟩
theorem kf5(n:UInt8):(vorb n).length=7:=rfl
def okO(s:OS):Prop:=gO s∧ocheckM s=(0,0)∧s.b.vt.size≤1073741824∧s.b.ns.length≤1073741824∧(∀n∈s.b.ns,n.name.size≤1073741824∧n.text.size≤1073741824)∧(opagesL s).length≤1048576
theorem jh4{s:OS}(h:ocheckM s=(0,0)):opensG s.first=true∧s.first.nu=0∧(checkM s.b).1=0∧preM (bl s.setup) (vorb 5)=true∧soundF s.first.se s.sound 0=(0,0):=by
 unfold ocheckM at h;split at h
 · exact absurd (show(5:Int)=0 from congrArg Prod.fst h) (by decide)
 · next h1=>
   split at h
   · next h2=>exact absurd (congrArg Prod.fst h) h2
   · next h2=>
     split at h
     · exact absurd (show(5:Int)=0 from congrArg Prod.fst h) (by decide)
     · next h3=>
       refine⟨?_,?_,?_,?_,h⟩
       · cases ho:opensG s.first with
         | true=>rfl
         | false=>exact absurd (.inl ho) h1
       · exact Classical.byContradiction fun x=>h1 (.inr x)
       · exact Classical.byContradiction fun x=>h2 x
       · cases hp:preM (bl s.setup) (vorb 5)with
         | true=>rfl
         | false=>exact absurd hp h3
theorem vx7{s:OS}(h1:opensG s.first=true)(h2:s.first.nu=0)(h3:(checkM s.b).1=0)(h4:preM (bl s.setup) (vorb 5)=true)(h5:soundF s.first.se s.sound 0=(0,0)):ocheckM s=(0,0):=by
 unfold ocheckM;rw[if_neg (by rintro(h|h);(rw[h1]at h;cases h);exact h h2),if_neg (by simpa using h3),if_neg (by rw[h4];decide),h5]
theorem jk3{s:OS}(h:okO s):∀p∈opagesL s,gG p:=by
 obtain⟨⟨g1,g2⟩,_⟩:=h;intro p hp;unfold opagesL at hp;rw[List.cons_append,List.mem_cons,List.mem_append]at hp;rcases hp with rfl|hp|hp
 · exact g1
 · obtain⟨k,hk⟩:=List.getElem?_of_mem hp
   exact(kt5 s.first.se g1.2.2.2.1 _ _ _ _ _ (km8 s) k p hk).1
 · obtain⟨k,hk⟩:=List.getElem?_of_mem hp
   obtain⟨q,hq,rfl⟩:=jm0 _ _ _ _ hk;obtain⟨a,b,c,d,e⟩:=g2 q (List.mem_of_getElem? hq);exact⟨a,b,c,d,Nat.mod_lt _ (by decide)⟩
theorem kd6{s:OS}(h:okO s):strayF s.first.se (opagesL s) 0=none:=by
 obtain⟨⟨g1,g2⟩,hc,_⟩:=h;obtain⟨_,c2,_,_,c5⟩:=jh4 hc;have hs:=(js8 s.first.se s.sound 0).1 c5;apply kr4;intro k p hp;unfold opagesL at hp;rw[List.cons_append]at hp;cases k with
 | zero=>
  simp at hp;subst hp;exact⟨rfl,by rw[c2],fun h=>by omega⟩
 | succ k=>
  rw[List.getElem?_cons_succ]at hp;by_cases hk:k<(midO s).length
  · rw[List.getElem?_append_left hk]at hp
    obtain⟨_,b,c,d⟩:=kt5 s.first.se g1.2.2.2.1 _ _ _ _ _ (km8 s) k p hp
    exact⟨b,by rw[c];congr 1;omega,fun _=>d⟩
  · rw[List.getElem?_append_right (by omega)]at hp
    obtain⟨q,hq,rfl⟩:=jm0 _ _ _ _ hp;obtain⟨_,b,c,_⟩:=hs _ q hq;exact⟨b,by show(1+(midO s).length+(k-(midO s).length))%_=_;congr 1;omega,fun _=>c⟩
theorem vm7{b:Bk}(h:(checkM b).1=0):checkM b=(0,0):=jv2 b h
theorem qh7(hc:∀l,crc l<4294967296)(hR:∀l,(scanL l).2=none→R l=7)(s:OS)(hs:okO s):oparM crc R ⟨(oprintL crc s).toArray⟩=(backO s,0,0):=by
 have hok:=hs;obtain⟨⟨g1,g2⟩,hch,b1,b2,b3,b4⟩:=hs;obtain⟨c1,c2,c3,c4,c5⟩:=jh4 hch;have hpg:=kt2 crc hc (opagesL s) ((⟨(oprintL crc s).toArray⟩:ByteArray).size+1) ⟨⟨(oprintL crc s).toArray⟩,0,0,0,0⟩ [] [] (jk3 hok) (by
  rw[szL];unfold oprintL;have:∀l:List PG,l.length≤(l.flatMap (gprintL crc)).length:=by
   intro l
   induction l with
   | nil=>exact Nat.le_refl _
   | cons p r ih=>rw[List.flatMap_cons,List.length_append,jg7,List.length_cons];omega
  have:=this (opagesL s);omega) (by simpa using b4) ⟨rfl,Nat.zero_le _,by rw[blL,List.drop_zero];rfl⟩
 have hpm:pagesM crc ⟨(oprintL crc s).toArray⟩=((opagesL s,placesL crc 0 (opagesL s)),0,0):=by
  unfold pagesM;rw[hpg];simp[adv]
 unfold oparM;rw[hpm];simp only;rw[if_neg (by decide)];have ho:opagesL s=s.first::(midO s++renumL (1+(midO s).length) s.sound):=by unfold opagesL;simp
 have hst:=kd6 hok;rw[ho]at hst ⊢;simp only;rw[hst];simp only;rw[if_neg (by rw[c1];decide)];have htk:(midO s++renumL (1+(midO s).length) s.sound).take (midO s).length=midO s:=List.take_left' rfl;have hdr:(midO s++renumL (1+(midO s).length) s.sound).drop (midO s).length=renumL (1+(midO s).length) s.sound:=List.drop_left' rfl;have hj:=mid_join s g1.2.2.2.1;have hn:contO (midO s++renumL (1+(midO s).length) s.sound)[(midO s).length]?=false:=by
  rw[List.getElem?_append_right (Nat.le_refl _),Nat.sub_self];cases hz:(renumL (1+(midO s).length) s.sound)[0]? with
  | none=>rfl
  | some p=>
   obtain⟨q,hq,rfl⟩:=jm0 _ _ _ _ hz;exact((js8 s.first.se s.sound 0).1 c5 0 q hq).2.2.2 rfl
 have hpair:∀(sz:Nat) (pl:List Nat),pairM sz (midO s++renumL (1+(midO s).length) s.sound) pl=.inl (pktsO s,(midO s).length):=by
  intro sz pl;unfold pairM;rw[vh6];simp only;rw[htk,hj];simp only;rw[if_neg (by simp),if_neg (by simp[pktsO]),hn,if_neg (by decide)]
 unfold tailM;rw[hpair];simp only;have hk0:(pktsO s).getD 0 []=vorb 3++printL true s.b:=rfl;have hk1:(pktsO s).getD 1 []=bl s.setup:=rfl;rw[hk0,hk1,hdr];have hrest:Rest (⟨⟨(vorb 3++printL true s.b).toArray⟩,0,0,0,0⟩:RS) (vorb 3++printL true s.b):=⟨rfl,Nat.zero_le _,by rw[blL,List.drop_zero]⟩;obtain⟨w1,w2⟩:=hrest.want;have hpb:=kt1 (R:=R) hR true s.b _ (jv2 s.b c3) (by omega) (fun n hn=>by
  have:=b3 n hn;unfold noteL sizedL;simp only[List.length_append,jb1];show 4+(_+1+_)<_;omega) w1
 have hno:(notesO R (vorb 3++printL true s.b)).1.e=0∧(notesO R (vorb 3++printL true s.b)).2=some (utfBk s.b):=by
  unfold notesO;rw[w2,hpb];exact⟨rfl,rfl⟩
 rw[if_neg (by simpa using hno.1),if_neg (by rw[c4];decide),hno.2];unfold backO;rw[show(⟨(bl s.setup).toArray⟩:ByteArray)=s.setup from js2 s.setup]
 rfl
end
end Go.Proofs.YtagjkmkmphamoaaGreatDoor
