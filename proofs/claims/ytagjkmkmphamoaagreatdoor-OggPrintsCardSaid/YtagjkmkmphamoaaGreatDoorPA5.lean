/- A5 -/
import Derived.Deep.RegionHeld3
import Derived.Test.YtagjkmkmphamoaaGreatDoorPUs
import Derived.Test.YtagjkmkmphamoaaGreatDoorPWb
import Derived.Test.YtagjkmkmphamoaaGreatDoorPA2
import Derived.Test.YtagjkmkmphamoaaGreatDoorPA4
import Derived.Test.YtagjkmkmphamoaaGreatDoorPWi
set_option linter.all false
namespace Go.Proofs.YtagjkmkmphamoaaGreatDoor
open Go.RowKit
def hexPtsF:Nat→List UInt8→List Int
 | 0,_=>[]
 | f+1,l=>hexAt l 0 4::hexPtsF f (l.drop 5)
def hexPts(l:List UInt8):List Int:=hexPtsF (l.length/5) l
def sound(p:Int):Bool:=scalar p&&decide (p≠0)
def conv(s:Int×Int×ByteArray):Int×Int×List Int:=(s.1,b5cell s.2.1,hexPts (bl s.2.2))
def ncells(l:List Int):List Value:=l.map fun n=>Value.int .i64 n
def OwnN(w:World)(B:Nat)(v:Value)(l:List Int):Prop:=w.ownsRow B 3 1 v l.length (ncells l)
theorem OwnN.row{w:World}{B:Nat}{v:Value}{l:List Int}(h:OwnN w B v l):Row w v l.length (ncells l):=jc2 h
theorem OwnN.bel{w w':World}{B:Nat}{v:Value}{l:List Int}(h:OwnN w B v l)(hb:Below w.heap.size w w'):OwnN w' B v l:=jb2 h hb
section
variable {P:Program} {ops:Array Oper} {o:Oper} {a:Act} {K:Act→World→Prop} {Q:Exit→Act→World→Prop} {E:Prop}
theorem kr5(hgd:o.guard=none)(s x:Operand)(t e:TypeId)(ho:o.op=.call { callee:=.builtin .append,args:=#[s,x],argTypes:=#[t,t] })(ht:P.underlying t=some (.slice e))
 (z:Value) (size bytes:Nat) (hi:(P.info? e).map (fun i=>(i.zero,i.size,i.bytes))=some (some z,size,bytes)) (hzs:z.cells.size=size) (hsz:0<size)
 (W:World) (B:Nat) (v:Value) (n:Nat) (cs:List Value) (hs:a.eval s=v) (hown:W.ownsRow B e size v n cs) (news:Array Value) (hnl:news.size=size) (h1:∀u∈news.toList,u.oneCell'=true)
 (hx:a.eval x=.slice (some ⟨W.heap.size,0,none⟩) 1 1) (hlen:n<70368744177664) (hby:(n+1)*bytes≤140737488355328) (hB:B≤W.heap.size)
 (h:∀v' w',w'.ownsRow B e size v' (n+1) (cs++news.toList)→Below B W w'→K (a.put o.dst v') w'):
 if Region.wanted o (yielded ops a.tmps)=true then Oper.wp P o a (W.alloc (.cells news e)) K Q else E:=by
 have hw:Region.wanted o (yielded ops a.tmps)=true:=by simp[Region.wanted,hgd]
 rw[if_pos hw];obtain⟨i0,hi,hz0,hz1,hz2⟩:=info_parts hi;have hnw:∀j u,news.toList[j]?=some u→(W.alloc (.cells news e)).cell? ((⟨W.heap.size,0,none⟩:Addr).add j)=some u:=by
  intro j u hj;have ea:(⟨W.heap.size,0,none⟩:Addr).add j=⟨W.heap.size,j,none⟩:=by
   by_cases h0:j=0
   · subst h0;rfl
   · simp[Addr.add,h0]
  rw[ea,World.cell?_alloc_new];simpa using hj
 obtain⟨v',w',hrun,r1,r2,_⟩:=run_append_own (P:=P) (W.alloc (.cells news e)) B t o.type e i0 z size bytes ht hi hz0 hz1 hz2 hzs hsz v n cs (jb2 hown ((Below.refl _ _).alloc (Nat.le_refl _) _)) ⟨W.heap.size,0,none⟩ 1 1 news.toList (by simp[hnl]) hnw h1 (by unfold maxLen;omega) hby (by simp;omega);unfold Oper.wp;simp[execOp,ho,resolve,invoke,builtin,hs,hx,hrun,Result.andThen];exact h v' w' r1 (((Below.refl _ _).alloc hB _).trans (jn8 (jb2 hown ((Below.refl _ _).alloc (Nat.le_refl _) _)) r2 (by simp;omega)))
end
def labA:List (List ByteArray):=[
 [⟨#[108,97,116,105,110,49]⟩,⟨#[105,115,111,45,56,56,53,57,45,49]⟩,⟨#[108,97,116,105,110,45,49]⟩],
 [⟨#[107,111,105,56,45,114]⟩,⟨#[107,111,105,56,114]⟩],
 [⟨#[107,111,105,56,45,117]⟩,⟨#[107,111,105,56,117]⟩],
 [⟨#[99,112,56,54,54]⟩,⟨#[105,98,109,56,54,54]⟩],
 [⟨#[99,112,57,52,57]⟩,⟨#[101,117,99,45,107,114]⟩,⟨#[117,104,99]⟩],
 [⟨#[106,111,104,97,98]⟩,⟨#[99,112,49,51,54,49]⟩],
 [⟨#[98,105,103,53,45,104,107,115,99,115]⟩,⟨#[98,105,103,53]⟩],
 [⟨#[117,116,102,45,56]⟩,⟨#[117,116,102,56]⟩],
 [⟨#[117,116,102,45,49,54,108,101]⟩,⟨#[117,116,102,49,54,108,101]⟩],
 [⟨#[117,116,102,45,49,54,98,101]⟩,⟨#[117,116,102,49,54,98,101]⟩]]
def labL(c:Int):List ByteArray:=if 0≤c then(labA[c.toNat]?).getD []else []
def scells(l:List ByteArray):List Value:=l.map Value.string
theorem row_lits(w:World)(cs:Array Value)(t:TypeId):Row (w.alloc (.cells cs t)) (.slice (some ⟨w.heap.size,0,none⟩) cs.size cs.size) cs.size cs.toList:=by
 refine⟨_,_,rfl,fun j x hj=>⟨w.heap.size,0,rfl,?_⟩⟩;rw[Nat.zero_add,World.cell?_alloc_new];simpa using hj
def hasLab(l:List UInt8)(c:Nat):Bool:=(labL (c:Int)).any fun s=>decide (smallL l=bl s)
def refNamed(l:List UInt8):Int:=match(List.range 10).find? (hasLab l)with
 | some c=>c
 | none=>-1
theorem ref_hit(l:List UInt8)(c:Nat)(hc:c<10)(hb:∀d,d<c→hasLab l d=false)(h:hasLab l c=true):refNamed l=c:=by
 have:(List.range 10).find? (hasLab l)=some c:=by
  rw[List.find?_eq_some_iff_getElem];refine⟨h,c,by simpa using hc,by simp,fun j hj=>?_⟩;rw[List.getElem_range,hb j hj];rfl
 unfold refNamed;rw[this]
theorem ref_miss(l:List UInt8)(hb:∀d,d<10→hasLab l d=false):refNamed l = -1:=by
 have:(List.range 10).find? (hasLab l)=none:=by
  rw[List.find?_eq_none];intro x hx;rw[hb x (by simpa using hx)];simp
 unfold refNamed;rw[this]
theorem row_at{w:World}{v:Value}{n:Nat}{cs:List Value}(h:Row w v n cs)(j:Nat)(x:Value)(hj:cs[j]?=some x):∃g o cap,v=.slice (some ⟨g,o,none⟩) n cap∧w.cell? ⟨g,o+j,none⟩=some x:=by
 obtain⟨a,cap,rfl,h⟩:=h;obtain⟨g,o,rfl,hc⟩:=h j x hj;exact⟨g,o,cap,rfl,hc⟩
def IsL(t:List UInt8):Prop:=∃ps:List Int,t=encL ps∧∀p∈ps,Scal p
theorem IsL.nil:IsL []:=⟨[],rfl,fun p h=>by cases h⟩
theorem IsL.one(p:Int)(h:Scal p):IsL (encR p):=⟨[p],by simp[encL],fun q hq=>by simp at hq;rw[hq];exact h⟩
theorem IsL.scan{t:List UInt8}(h:IsL t):(scanL t).2=none:=by
 obtain⟨p,rfl,hp⟩:=h;rw[vf4 p hp]
theorem IsL.pts{t:List UInt8}(h:IsL t):∀p∈pts t,Scal p:=by
 obtain⟨q,rfl,hq⟩:=h;rw[vv0 q hq];exact hq
structure RS where
 s:ByteArray
 n:Nat
 b:Nat
 e:Int
 a:Int
def failR(x:RS)(e a:Int):RS:=if x.e=0∧e≠0 then { x with e:=e,a:=a } else x
def shortR(x:RS):RS:=failR x 1 ((x.b:Int)+x.s.size)
def takeR(x:RS)(k:Int):RS×ByteArray:=
 if x.e≠0 then(x,⟨#[]⟩)else if k<0∨(x.s.size:Int)-x.n<k then(shortR x,⟨#[]⟩)else({ x with n:=x.n+k.toNat },x.s.extract x.n (x.n+k.toNat))
def leftR(x:RS):Int:=if x.e≠0 then 0 else(x.s.size:Int)-x.n
def firstDiff:List UInt8→List UInt8→Nat→Option Nat
 | a::l,b::m,i=>if a=b then firstDiff l m (i+1)else some i
 | _,_,_=>none
def wantR(x:RS)(t:ByteArray):RS×Bool:=
 if x.e≠0 then(x,false)else match firstDiff (bl t) ((bl x.s).drop x.n) 0 with
 | some i=>(failR x 1 ((x.b:Int)+x.n+i),false)
 | none=>if(x.s.size:Int)-x.n<t.size then(shortR x,false)else({ x with n:=x.n+t.size },true)
def leN:List UInt8→Nat
 | []=>0
 | a::l=>a.toNat+256*leN l
def le4(n:Nat):List UInt8:=[UInt8.ofNat n,UInt8.ofNat (n/256),UInt8.ofNat (n/65536),UInt8.ofNat (n/16777216)]
theorem leN_le4(n:Nat)(h:n<4294967296):leN (le4 n)=n:=by
 unfold le4 leN leN leN leN leN;simp only[UInt8.toNat_ofNat'];omega
theorem vb2(l:List UInt8):leN l<256^l.length:=by
 induction l with
 | nil=>simp[leN]
 | cons a l ih=>
  have:=a.toNat_lt;simp only[leN,List.length_cons,Nat.pow_succ];omega
def numR(x:RS):RS×Nat:=((takeR x 4).1,leN (bl (takeR x 4).2))
def sizedR(x:RS):RS×ByteArray×Int:=((takeR (numR x).1 (numR x).2).1,(takeR (numR x).1 (numR x).2).2,((numR x).1.b:Int)+(numR x).1.n)
def letter8(c:UInt8):Bool:=decide (32≤c.toNat∧c.toNat≤125∧c.toNat≠61)
def aheadM(l:List UInt8):Nat:=(l.takeWhile letter8).length
def namedNM(l:List UInt8):Bool:=!l.isEmpty&&l.all letter8
structure Nt where
 name:ByteArray
 text:ByteArray
 set:Int
structure Bk where
 vt:ByteArray
 vs:Int
 ns:List Nt
section
variable (R:List UInt8→Int)
noncomputable def leafR(x:RS)(t:ByteArray)(at_:Int):RS×ByteArray×Int:=
 if 0≤R (bl t)∧R (bl t)≤9 then match decT (tokC (R (bl t))) (bl t)with
  | (u,none)=>(x,⟨u.toArray⟩,R (bl t))
  | (_,some k)=>(failR x 2 (at_+k),⟨#[]⟩,0)
 else(failR x 5 at_,⟨#[]⟩,0)
noncomputable def noteR(x:RS):RS×Nt:=
 if(sizedR x).1.e≠0 then((sizedR x).1,⟨⟨#[]⟩,⟨#[]⟩,0⟩)else
 let t:=(sizedR x).2.1
 let at_:=(sizedR x).2.2
 let n:=aheadM (bl t)
 if n=0∨(bl t)[n]?≠some 61 then(failR (sizedR x).1 1 (at_+n),⟨⟨#[]⟩,⟨#[]⟩,0⟩)else
 let l:=leafR R (sizedR x).1 (t.extract (n+1) t.size) (at_+n+1)
 (l.1,⟨t.extract 0 n,l.2.1,l.2.2⟩)
noncomputable def notesR:Nat→RS→List Nt→RS×List Nt
 | 0,x,l=>(x,l)
 | k+1,x,l=>if x.e≠0 then(x,l)else notesR k (noteR R x).1 (l ++ [(noteR R x).2])
def frameB:ByteArray:=⟨#[1]⟩
def endR(fr:Bool)(x:RS):RS:=
 let v:=if fr=true then(wantR x frameB).1 else x
 if 0<leftR v then failR v 1 ((v.b:Int)+v.n)else v
noncomputable def countR(z:RS):RS×Nat:=(if 4096<(numR z).2 then failR (numR z).1 4 ((z.b:Int)+z.n)else(numR z).1,(numR z).2)
noncomputable def parseR(fr:Bool)(x:RS):RS×Option Bk:=
 if x.e≠0 then(x,none)else
 if(sizedR x).1.e≠0 then((sizedR x).1,none)else
 let f:=leafR R (sizedR x).1 (sizedR x).2.1 (sizedR x).2.2
 let c:=countR f.1
 let l:=notesR R c.2 c.1 []
 let v:=endR fr l.1
 (v,if v.e≠0 then none else some ⟨f.2.1,f.2.2,l.2⟩)
end
def checkL:List Nt→Nat→Int×Int
 | [],_=>(0,0)
 | n::r,i=>if 4096≤i then(4,(i:Int)+1)else if namedNM (bl n.name)=false then(5,(i:Int)+1)else if(scanL (bl n.text)).2.isSome then(2,(i:Int)+1)else checkL r (i+1)
def checkM(b:Bk):Int×Int:=if(scanL (bl b.vt)).2.isSome then(2,0)else checkL b.ns 0
def sizedL(l:List UInt8):List UInt8:=le4 l.length++l
def noteL(n:Nt):List UInt8:=sizedL (bl n.name ++ [61]++bl n.text)
def printL(fr:Bool)(b:Bk):List UInt8:=sizedL (bl b.vt)++le4 b.ns.length++b.ns.flatMap noteL++if fr=true then [1]else []
def utfNt(n:Nt):Nt:={ n with set:=7 }
def utfBk(b:Bk):Bk:=⟨b.vt,7,b.ns.map utfNt⟩
def Rest(x:RS)(q:List UInt8):Prop:=x.e=0∧x.n≤x.s.size∧(bl x.s).drop x.n=q
def adv(x:RS)(k:Nat):RS:={ x with n:=x.n+k }
theorem jq8(x:RS)(j k:Nat):adv (adv x j) k=adv x (j+k):=by unfold adv;simp[Nat.add_assoc]
theorem Rest.step{x:RS}{p q:List UInt8}(h:Rest x (p++q)):Rest (adv x p.length) q∧takeR x p.length=(adv x p.length,⟨p.toArray⟩):=by
 obtain⟨h0,h1,h2⟩:=h;have hl:=congrArg List.length h2;simp only[List.length_drop,List.length_append,jb1]at hl;have hq:(bl x.s).drop (x.n+p.length)=q:=by
  rw[←List.drop_drop,h2,List.drop_left]
 refine⟨⟨h0,by unfold adv;simp only;omega,hq⟩,?_⟩;unfold takeR;rw[if_neg (by simpa using h0),if_neg (by omega)];have he:x.s.extract x.n (x.n+(p.length:Int).toNat)=⟨p.toArray⟩:=by
  apply ByteArray.ext;apply Array.toList_inj.1;rw[ByteArray.data_extract,Array.toList_extract];show((bl x.s).extract x.n (x.n+p.length))=p;rw[List.extract_eq_take_drop,h2];simp
 rw[he]
 rfl
theorem Rest.left{x:RS}{q:List UInt8}(h:Rest x q):leftR x=q.length:=by
 obtain⟨h0,h1,h2⟩:=h;have hl:=congrArg List.length h2;simp only[List.length_drop,jb1]at hl;unfold leftR;rw[if_neg (by simpa using h0)];omega
theorem Rest.num{x:RS}{n:Nat}{q:List UInt8}(hn:n<4294967296)(h:Rest x (le4 n++q)):Rest (adv x 4) q∧numR x=(adv x 4,n):=by
 have h1:=h.step;have e:(le4 n).length=4:=rfl;rw[e]at h1;refine⟨h1.1,?_⟩;unfold numR;have h2:takeR x 4=_:=h1.2;rw[h2];show(adv x 4,leN (le4 n))=_;rw[leN_le4 n hn]
theorem Rest.sized{x:RS}{p q:List UInt8}(hn:p.length<4294967296)(h:Rest x (sizedL p++q)):Rest (adv x (4+p.length)) q∧sizedR x=(adv x (4+p.length),⟨p.toArray⟩,(x.b:Int)+(x.n+4:Nat)):=by
 unfold sizedL at h;rw[List.append_assoc]at h;obtain⟨h1,h2⟩:=h.num hn;obtain⟨h3,h4⟩:=h1.step;rw[jq8]at h3 h4;refine⟨h3,?_⟩;unfold sizedR;rw[h2];simp only;rw[h4]
 rfl
section
variable {R:List UInt8→Int} (hR:∀l,(scanL l).2=none→R l=7)
include hR
theorem vb1(x:RS)(t:ByteArray)(at_:Int)(h:(scanL (bl t)).2=none):leafR R x t at_=(x,t,7):=by
 unfold leafR;rw[hR _ h,if_pos (by decide),tokC_u,decT_U];unfold decU;rw[h]
omit hR in
theorem vp1(l q:List UInt8)(h:l.all letter8=true):aheadM (l ++ [61]++q)=l.length:=by
 unfold aheadM;have:(l ++ [61]++q).takeWhile letter8=l:=by
  induction l with
  | nil=>rfl
  | cons a l ih=>
   rw[List.all_cons,Bool.and_eq_true]at h;simp only[List.cons_append,List.takeWhile_cons,h.1,if_true];rw[ih h.2]
 rw[this]
theorem vz3{x:RS}{n:Nt}{q:List UInt8}(h1:namedNM (bl n.name)=true)(h2:(scanL (bl n.text)).2=none)(hn:(noteL n).length<4294967296)(h:Rest x (noteL n++q)):
 Rest (adv x (noteL n).length) q∧noteR R x=(adv x (noteL n).length,utfNt n):=by
 unfold namedNM at h1;rw[Bool.and_eq_true]at h1;have hl:(noteL n).length=4+(bl n.name ++ [61]++bl n.text).length:=by unfold noteL sizedL;rw[List.length_append];rfl
 have hs:=Rest.sized (p:=bl n.name ++ [61]++bl n.text) (by omega) h;rw[←hl]at hs;refine⟨hs.1,?_⟩;unfold noteR;rw[hs.2];simp only;rw[if_neg (by simpa using hs.1.1)];show(if aheadM (bl n.name ++ [61]++bl n.text)=0∨(bl n.name ++ [61]++bl n.text)[aheadM (bl n.name ++ [61]++bl n.text)]?≠some 61 then _ else _)=_;rw[vp1 _ _ h1.2];have hne:(bl n.name).length≠0:=by
  intro hz;rw[List.eq_nil_of_length_eq_zero hz]at h1;simp at h1
 rw[if_neg (by
  rintro(h|h)
  · exact hne h
  · apply h;rw[List.append_assoc,List.getElem?_append_right (Nat.le_refl _)];simp)]
 have e1:(⟨(bl n.name ++ [61]++bl n.text).toArray⟩:ByteArray).extract ((bl n.name).length+1) (⟨(bl n.name ++ [61]++bl n.text).toArray⟩:ByteArray).size=n.text:=by
  apply ByteArray.ext;apply Array.toList_inj.1;rw[jh6];show(bl n.name ++ [61]++bl n.text).drop ((bl n.name).length+1)=_;rw[show(bl n.name).length+1=(bl n.name ++ [61]).length from by simp,List.drop_left]
 have e2:(⟨(bl n.name ++ [61]++bl n.text).toArray⟩:ByteArray).extract 0 (bl n.name).length=n.name:=by
  apply ByteArray.ext;apply Array.toList_inj.1;rw[ByteArray.data_extract,Array.toList_extract];show(bl n.name ++ [61]++bl n.text).extract 0 (bl n.name).length=_;rw[List.extract_eq_take_drop,List.append_assoc];simp
 rw[e1,e2,vb1 hR _ _ _ h2]
 rfl
theorem vh4:∀(ns:List Nt) (x:RS) (q:List UInt8) (acc:List Nt),(∀n∈ns,namedNM (bl n.name)=true∧(scanL (bl n.text)).2=none∧(noteL n).length<4294967296) →
 Rest x (ns.flatMap noteL++q)→Rest (adv x (ns.flatMap noteL).length) q∧notesR R ns.length x acc=(adv x (ns.flatMap noteL).length,acc++ns.map utfNt):=by
 intro ns
 induction ns with
 | nil=>
  intro x q acc _ h;refine⟨h,?_⟩;simp[notesR,adv]
 | cons n ns ih=>
  intro x q acc hns h;rw[List.flatMap_cons,List.append_assoc]at h;obtain⟨a1,a2,a3⟩:=hns n (List.mem_cons_self ..);obtain⟨b1,b2⟩:=vz3 hR a1 a2 a3 h;obtain⟨c1,c2⟩:=ih _ q (acc ++ [utfNt n]) (fun m hm=>hns m (List.mem_cons_of_mem _ hm)) b1;rw[jq8]at c1 c2;rw[List.flatMap_cons,List.length_append];refine⟨c1,?_⟩;rw[List.length_cons,notesR,if_neg (by simpa using h.1),b2];simp only;rw[c2];simp
omit hR in
theorem end_back{fr:Bool}{x:RS}(h:Rest x (if fr=true then [1]else [])):(endR fr x).e=0∧(endR fr x)=adv x (if fr=true then 1 else 0):=by
 cases fr with
 | false=>
  have hl:=h.left;unfold endR;simp only[Bool.false_eq_true,if_false]at hl ⊢;rw[hl];simp only[List.length_nil,Int.natCast_zero,Int.lt_irrefl,if_false];exact⟨h.1,rfl⟩
 | true=>
  simp only[if_true]at h;have h1:=Rest.step (p:=[1]) (q:=[]) h;have hw:wantR x frameB=(adv x 1,true):=by
   unfold wantR;rw[if_neg (by simpa using h.1),h.2.2];have hl:=congrArg List.length h.2.2;simp only[List.length_drop,jb1,List.length_cons,List.length_nil]at hl;have e:firstDiff (bl frameB) [1] 0=none:=by decide
   rw[e];simp only;rw[if_neg (show ¬(x.s.size:Int)-x.n<(frameB.size:Int) from by have:frameB.size=1:=rfl;omega)]
   rfl
  unfold endR;rw[hw];have hl:=h1.1.left;simp only[if_true];simp only[List.length_cons,List.length_nil,Nat.zero_add]at hl;rw[hl];simp only[Int.natCast_zero,Int.lt_irrefl,if_false];exact⟨h1.1.1,trivial⟩
omit hR in
theorem vm8:∀(ns:List Nt) (i:Nat),checkL ns i=(0,0)→(ns = []∨i+ns.length≤4096)∧∀n∈ns,namedNM (bl n.name)=true∧(scanL (bl n.text)).2=none:=by
 intro ns
 induction ns with
 | nil=>intro i _;exact⟨.inl rfl,fun n h=>by cases h⟩
 | cons n ns ih=>
  intro i h;unfold checkL at h;split at h
  · simp at h
  · split at h
    · simp at h
    · split at h
      · simp at h
      · rename_i h1 h2 h3
        obtain⟨a,b⟩:=ih (i+1) h;refine⟨.inr ?_,?_⟩
        · rcases a with rfl|a
          · simp;omega
          · simp;omega
        · intro m hm
          rcases List.mem_cons.1 hm with rfl|hm
          · exact⟨by simpa using h2,by simpa using h3⟩
          · exact b m hm
theorem kt1(fr:Bool)(b:Bk)(x:RS)(hc:checkM b=(0,0))(hv:b.vt.size<4294967296)(hns:∀n∈b.ns,(noteL n).length<4294967296)(h:Rest x (printL fr b)):
 parseR R fr x=(adv x (printL fr b).length,some (utfBk b)):=by
 unfold checkM at hc;split at hc
 · simp at hc
 rename_i hvt;have hvt:(scanL (bl b.vt)).2=none:=by simpa using hvt
 obtain⟨g1,g2⟩:=vm8 b.ns 0 hc;have hlen:b.ns.length≤4096:=by
  rcases g1 with h|h
  · rw[h];simp
  · omega
 have hx:=h;unfold printL at h;rw[List.append_assoc,List.append_assoc]at h;obtain⟨a1,a2⟩:=Rest.sized (p:=bl b.vt) (by rw[jb1];omega) h;obtain⟨b1,b2⟩:=a1.num (by omega);obtain⟨c1,c2⟩:=vh4 hR b.ns _ _ [] (fun n hn=>⟨(g2 n hn).1,(g2 n hn).2,hns n hn⟩) b1;obtain⟨d1,d2⟩:=end_back c1;unfold parseR;rw[if_neg (by simpa using hx.1),a2];simp only;rw[if_neg (by simpa using a1.1)];have ev:(⟨(bl b.vt).toArray⟩:ByteArray)=b.vt:=rfl;rw[ev,vb1 hR _ _ _ hvt];simp only;unfold countR;rw[b2];simp only;rw[if_neg (by omega),c2];simp only;rw[if_neg (by simpa using d1),d2];rw[jq8,jq8,jq8];have e:∀k,k=(printL fr b).length→(adv x k,some (Bk.mk b.vt 7 ([]++b.ns.map utfNt)))=(adv x (printL fr b).length,some (utfBk b)):=by
  intro k hk;rw[hk];simp[utfBk]
 apply e;unfold printL sizedL;simp only[List.length_append];cases fr<;>simp[le4]<;>omega
end
theorem jp3(x:RS)(e a:Int)(h:e≠0):(failR x e a).e≠0:=by
 unfold failR;split
 · exact h
 · rename_i h'
   intro h2;exact h' ⟨h2,h⟩
theorem kc6(x:RS)(e a:Int):(failR x e a).s=x.s:=by unfold failR;split<;>rfl
theorem kx9(x:RS)(k:Int):(takeR x k).1.s=x.s:=by
 unfold takeR;split
 · rfl
 · split
   · exact kc6 _ _ _
   · rfl
theorem takeR_e(x:RS)(k:Int)(h:(takeR x k).1.e=0):x.e=0:=by
 unfold takeR at h;split at h
 · exact h
 · rename_i h1
   simpa using h1
theorem kj3(x:RS)(k:Int):(takeR x k).2.size≤x.s.size:=by
 unfold takeR;split
 · exact Nat.zero_le _
 · split
   · exact Nat.zero_le _
   · show(x.s.extract _ _).size≤_
     rw[ByteArray.size_extract];omega
theorem jx0(x:RS):(sizedR x).1.s=x.s:=by unfold sizedR numR;rw[kx9,kx9]
theorem jz5(x:RS):(sizedR x).2.1.size≤x.s.size:=by
 unfold sizedR numR;refine Nat.le_trans (kj3 _ _) ?_;rw[kx9];exact Nat.le_refl _
section
variable {R:List UInt8→Int}
theorem qs6(x:RS)(t:ByteArray)(a:Int):(leafR R x t a).1.s=x.s:=by
 unfold leafR;split
 · cases decT (tokC (R (bl t))) (bl t)with
   | mk u o=>cases o with
    | none=>rfl
    | some k=>exact kc6 _ _ _
 · exact kc6 _ _ _
theorem qp3(l:List UInt8):(l.take (aheadM l)).all letter8=true∧aheadM l≤l.length:=by
 unfold aheadM
 induction l with
 | nil=>exact⟨rfl,Nat.le_refl _⟩
 | cons a l ih=>
  rw[List.takeWhile_cons];split
  · rename_i h
    simp only[List.length_cons,List.take_succ_cons,List.all_cons,h,ih.1,Bool.and_self,true_and];omega
  · simp
theorem noteR_s(x:RS):(noteR R x).1.s=x.s:=by
 unfold noteR;split
 · exact jx0 x
 · simp only
   split
   · rw[kc6,jx0]
   · rw[qs6,jx0]
end
def okR(x:RS):Prop:=x.n≤x.s.size∧x.s.size≤1073741824∧x.b≤1099511627776
theorem jt2{x:RS}(h:okR x)(e a:Int):okR (failR x e a):=by unfold failR;split<;>exact h
theorem jj0{x:RS}(h:okR x)(k:Int):okR (takeR x k).1:=by
 unfold takeR;split
 · exact h
 · split
   · exact jt2 h _ _
   · obtain⟨h1,h2,h3⟩:=h
     refine⟨?_,h2,h3⟩;show x.n+k.toNat≤x.s.size;omega
theorem kb6{x:RS}(h:okR x):okR (numR x).1:=jj0 h _
theorem jn9{x:RS}(h:okR x):okR (sizedR x).1:=jj0 (kb6 h) _
theorem qb0{R:List UInt8→Int}{x:RS}(h:okR x)(t:ByteArray)(a:Int):okR (leafR R x t a).1:=by
 unfold leafR;split
 · cases decT (tokC (R (bl t))) (bl t)with
   | mk u o=>cases o with
    | none=>exact h
    | some k=>exact jt2 h _ _
 · exact jt2 h _ _
theorem okR_note{R:List UInt8→Int}{x:RS}(h:okR x):okR (noteR R x).1:=by
 unfold noteR;split
 · exact jn9 h
 · simp only
   split
   · exact jt2 (jn9 h) _ _
   · exact qb0 (jn9 h) _ _
theorem jt1{x:RS}(h:okR x)(t:ByteArray):okR (wantR x t).1:=by
 unfold wantR;split
 · exact h
 · split
   · exact jt2 h _ _
   · split
     · exact jt2 h _ _
     · obtain⟨h1,h2,h3⟩:=h
       refine⟨?_,h2,h3⟩;show x.n+t.size≤x.s.size;omega
theorem qg8(fr:Bool)(b:Bk):printL fr (utfBk b)=printL fr b:=by
 unfold printL utfBk;simp only[List.length_map,List.flatMap_map]
 rfl
theorem vm9:∀(l:List Nt) (i:Nat),checkL (l.map utfNt) i=checkL l i:=by
 intro l
 induction l with
 | nil=>intro i;rfl
 | cons n l ih=>
  intro i;rw[List.map_cons,checkL,checkL,ih]
  rfl
theorem xh0(b:Bk):checkM (utfBk b)=checkM b:=by
 unfold checkM utfBk;simp only;rw[vm9]
end Go.Proofs.YtagjkmkmphamoaaGreatDoor
