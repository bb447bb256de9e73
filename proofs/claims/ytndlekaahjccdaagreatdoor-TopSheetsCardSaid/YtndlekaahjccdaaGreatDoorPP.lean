/- PP -/
import Derived.Test.YtndlekaahjccdaaGreatDoorPO
set_option linter.all false
set_option maxRecDepth 100000
set_option maxHeartbeats 40000000
namespace Go.Proofs.YtndlekaahjccdaaGreatDoor
open Go Go.Rf Go.RowKit Go.Proofs.Tryz
def nmP:List (List UInt8):=[remL,titL,perL,sonL,filL,traL,indL,preL,posL,catL,isrL,flaL]
def eqP:List (List UInt8)->Nat->Nat->List BinF
 | [],_,_=>[]
 | l::r,j,m=>(.eql,.sym 4,lS l,lB (Nat.beq j m))::eqP r (j+1) m
def bP(m:Nat):List BinF:=(.eql,.sym 1,.sym 3,lB false)::(.eql,.sym 2,.sym 3,lB false)::(.neq,.sym 24,u8 32,lB false)::(.add,.sym 2,lI 1,.sym 5)::eqP nmP 0 m
def sP:List SliF:=[(.sym 0,some (.sym 1),some (.sym 2),.sym 4),(.sym 0,some (.sym 5),none,.sym 6),(.sym 0,none,some (.sym 5),.sym 7)]
def iP:List ByF:=[(.sym 0,.sym 2,.sym 24)]
def lP:List LenF:=[(0,.sym 3),(6,.sym 19)]
def cP:SymF:=(249,[.a (.sym 0)],.t [.a (.sym 1),.a (.sym 2)])
def mk(cs:List At)(r:At):RowF:=(111,cs,one1 r)
def tP0(v:Bool):Told:={ b:=[(.eql,.sym 1,.sym 3,lB true),(.eql,.sym 0,lS [],lB v)],l:=lP,c:=[cP],w:=[mk [.sym 0] (.sym 0)] }
def tP1(v:Bool):Told:={ b:=[(.eql,.sym 1,.sym 3,lB false),(.eql,.sym 2,.sym 3,lB true),(.eql,.sym 4,lS remL,lB v)],s:=[(.sym 0,some (.sym 1),some (.sym 2),.sym 4)],l:=lP,c:=[cP],w:=[mk [.sym 0] (.sym 0)] }
def tP2:Told:={ b:=[(.eql,.sym 1,.sym 3,lB false),(.eql,.sym 2,.sym 3,lB false),(.neq,.sym 24,u8 32,lB true)],s:=[(.sym 0,some (.sym 1),some (.sym 2),.sym 4)],i:=iP,l:=lP,c:=[cP] }
def tR:Told:={ b:=bP 0,s:=sP,i:=iP,l:=lP,c:=[cP],w:=[mk [.sym 7] (.sym 7)] }
def tVal(m:Nat)(tq:At)(b2:List BinF)(s2:List SliF)(c2:List SymF)(ok v:Bool):Told:=
 { b:=(.add,.sym 5,.sym 25,.sym 11)::(.sub,tq,.sym 25,.sym 13)::(.neq,.sym 14,lS [],lB v)::(b2++bP m)
   s:=(.sym 0,some (.sym 5),some tq,.sym 9)::(.sym 0,some (.sym 5),some (.sym 11),.sym 12)::(.sym 0,some (.sym 13),none,.sym 14)::(s2++sP)
   i:=iP,l:=lP,c:=(319,[.a (.sym 9)],.t [.a (.sym 10),.a (.sym 25),.a (lB ok)])::(c2 ++ [cP]),w:=[mk [.sym 7,.sym 12] (.sym 15),mk [.sym 14] (.sym 14)] }
def tF0:Told:={ b:=(.lss,.sym 16,lI 0,lB true)::bP 4,s:=sP,i:=iP,l:=lP,c:=[(252,[.a (.sym 6),.a (lS [32])],one1 (.sym 16)),cP] }
def bF:List BinF:=[(.lss,.sym 16,lI 0,lB false),(.add,.sym 16,lI 1,.sym 18),(.add,.sym 5,.sym 16,.sym 8)]
def sF:List SliF:=[(.sym 6,some (.sym 18),none,.sym 17)]
def cF2(c:Bool):List SymF:=[(252,[.a (.sym 6),.a (lS [32])],one1 (.sym 16)),(253,[.a (.sym 17)],one1 (lB c))]
def tF1:Told:={ b:=bF++bP 4,s:=sF++sP,i:=iP,l:=lP,c:=cF2 false ++ [cP] }
def tF(ok v:Bool):Told:=tVal 4 (.sym 8) bF sF (cF2 true) ok v
def tN(m:Nat)(c:SymF)(g p q:Bool):Told:=
 { b:=(.gtr,.sym 19,lI 2,lB g)::(.eql,.sym 21,u8 32,lB q)::bP m,s:=(.sym 6,none,some (lI 2),.sym 20)::(.sym 6,some (lI 3),none,.sym 22)::sP,i:=(.sym 6,lI 2,.sym 21)::iP,l:=lP
   c:=[(164,[.a (.sym 20),.a (lS nnL)],one1 (lB p)),c,cP],w:=[mk [.sym 0] (.sym 0)] }
def cCap(r:Bool):SymF:=(253,[.a (.sym 22)],one1 (lB r))
def cMom(r:Bool):SymF:=(164,[.a (.sym 22),.a (lS momL)],one1 (lB r))
def tN0(m:Nat):Told:={ b:=(.gtr,.sym 19,lI 2,lB false)::bP m,s:=sP,i:=iP,l:=lP,c:=[cP],w:=[mk [.sym 0] (.sym 0)] }
def tG(m:Nat)(r:Bool):Told:={ b:=bP m,s:=sP,i:=iP,l:=lP,c:=[(164,[.a (.sym 6),.a (lS momL)],one1 (lB r)),cP],w:=[mk [.sym 0] (.sym 0)] }
def tL(m:Nat)(r:Bool):Told:={ b:=bP m,s:=sP,i:=iP,l:=lP,c:=[(256,[.a (.sym 6)],one1 (lB r)),cP],w:=[mk [.sym 0] (.sym 0)] }
def tXX:Told:={ b:=bP 12,s:=sP,i:=iP,l:=lP,c:=[cP] }
noncomputable abbrev runP(T:Told):Option (Nat×List At×Bool):=yAv T 165 [.a (.sym 0)]
abbrev mA(x:At):List At:=[lB true,lS [109,97,114,107],x]
abbrev tA(n:List UInt8)(x:At):List At:=[lB false,lS n,x]
def rV(n:List UInt8)(ok v:Bool):Option (Nat×List At×Bool):=match ok,v with
 | true,true=>some (3,mA (.sym 15)++(tA n (.sym 10)++(mA (.sym 14) ++ [])),true)
 | true,false=>some (2,mA (.sym 15)++(tA n (.sym 10) ++ []),true)
 | false,_=>some (0,[],false)
def rM(v:Bool):Option (Nat×List At×Bool):=match v with
 | true=>some (1,mA (.sym 0),true)
 | false=>some (0,[],false)
theorem p0(v:Bool):runP (tP0 v)=(match v with|true=>some (0,[],true)|false=>some (1,mA (.sym 0),true)):=by cases v<;>kernel_rfl
theorem p1(v:Bool):runP (tP1 v)=rM v:=by cases v<;>kernel_rfl
theorem p2:runP tP2=some (0,[],false):=by kernel_rfl
theorem pR:runP tR=some (2,mA (.sym 7)++(tA [114,101,109,97,114,107] (.sym 6) ++ []),true):=by kernel_rfl
theorem pV1(ok v:Bool):runP (tVal 1 (.sym 3) [] [] [] ok v)=rV [116,105,116,108,101] ok v:=by cases ok<;>cases v<;>kernel_rfl
theorem pV2(ok v:Bool):runP (tVal 2 (.sym 3) [] [] [] ok v)=rV [112,101,114,102,111,114,109,101,114] ok v:=by cases ok<;>cases v<;>kernel_rfl
theorem pV3(ok v:Bool):runP (tVal 3 (.sym 3) [] [] [] ok v)=rV [115,111,110,103,119,114,105,116,101,114] ok v:=by cases ok<;>cases v<;>kernel_rfl
theorem pF0:runP tF0=some (0,[],false):=by kernel_rfl
theorem pF1:runP tF1=some (0,[],false):=by kernel_rfl
theorem pF(ok v:Bool):runP (tF ok v)=rV [102,105,108,101] ok v:=by cases ok<;>cases v<;>kernel_rfl
theorem pN5(p q r:Bool):runP (tN 5 (cCap r) true p q)=rM (p&&q&&r):=by cases p<;>cases q<;>cases r<;>kernel_rfl
theorem pN6(p q r:Bool):runP (tN 6 (cMom r) true p q)=rM (p&&q&&r):=by cases p<;>cases q<;>cases r<;>kernel_rfl
theorem pN05:runP (tN0 5)=some (0,[],false):=by kernel_rfl
theorem pN06:runP (tN0 6)=some (0,[],false):=by kernel_rfl
theorem pG7(r:Bool):runP (tG 7 r)=rM r:=by cases r<;>kernel_rfl
theorem pG8(r:Bool):runP (tG 8 r)=rM r:=by cases r<;>kernel_rfl
theorem pL9(r:Bool):runP (tL 9 r)=rM r:=by cases r<;>kernel_rfl
theorem pL10(r:Bool):runP (tL 10 r)=rM r:=by cases r<;>kernel_rfl
theorem pL11(r:Bool):runP (tL 11 r)=rM r:=by cases r<;>kernel_rfl
theorem pX:runP tXX=some (0,[],false):=by kernel_rfl
def sgN(s:ByteArray)(tq:Nat):Nat:=(valT (s.extract (wdJ (bl s)+1) tq)).2
def restB(s:ByteArray):ByteArray:=s.extract (wdJ (bl s)+1) s.size
def byN(l:List UInt8)(k:Nat):Nat:=match l[k]? with|some c=>c.toNat|none=>0
def pS(s:ByteArray)(tq:Nat)(k:Int):List Value:=
 [.string s,.int .i64 (wdI (bl s)),.int .i64 (wdJ (bl s)),.int .i64 s.size,.string (s.extract (wdI (bl s)) (wdJ (bl s))),.int .i64 ((wdJ (bl s)+1:Nat):Int),.string (restB s),.string (s.extract 0 (wdJ (bl s)+1)),
  .int .i64 (tq:Int),.string (s.extract (wdJ (bl s)+1) tq),.string (valT (s.extract (wdJ (bl s)+1) tq)).1,.int .i64 ((wdJ (bl s)+1+sgN s tq:Nat):Int),.string (s.extract (wdJ (bl s)+1) (wdJ (bl s)+1+sgN s tq)),
  .int .i64 ((tq-sgN s tq:Nat):Int),.string (s.extract (tq-sgN s tq) s.size),.string ⟨([s.extract 0 (wdJ (bl s)+1),s.extract (wdJ (bl s)+1) (wdJ (bl s)+1+sgN s tq)].map bl).flatten.toArray⟩,
  .int .i64 k,.string ((restB s).extract (k.toNat+1) (restB s).size),.int .i64 (k+1),.int .i64 (restB s).size,.string ((restB s).extract 0 2),.int .u8 (byN (bl (restB s)) 2),.string ((restB s).extract 3 (restB s).size),.int .i64 0,.int .u8 (byN (bl s) (wdJ (bl s))),.int .i64 (sgN s tq)]
theorem pS_ok(s:ByteArray)(tq:Nat)(k:Int):AllP okS (pS s tq k):=
 ⟨zU _,zV _ _,zV _ _,zV _ _,zU _,zV _ _,zU _,zU _,zV _ _,zU _,zU _,zV _ _,zU _,zV _ _,zU _,zU _,zV _ _,zU _,zV _ _,zV _ _,zU _,zV _ _,zU _,zV _ _,zV _ _,zV _ _,trivial⟩
noncomputable abbrev pI(s:ByteArray)(tq:Nat)(k:Int):Sym:=sgL (pS s tq k) (pS_ok s tq k)
theorem y9C(b:ByteArray)(k:Nat)(h:k<b.size):(byN (bl b) k:Int)=((b[k]'h).toNat:Int):=by
 unfold byN;rw[show(bl b)[k]?=some (b[k]'h) by
  show b.data.toList[k]?=_;rw[Array.getElem?_toList,Array.getElem?_eq_getElem h];rfl]
theorem y1h{α:Type}{p:α->Prop}:∀ {a b:List α},AllP p a->AllP p b->AllP p (a++b)
 | [],_,_,hb=>hb
 | _::_,_,ha,hb=>⟨ha.1,y1h ha.2 hb⟩
theorem y4l[Sym]:∀ {a b:List BinF},y1P a->y1P b->y1P (a++b)
 | [],_,_,hb=>hb
 | _::_,_,ha,hb=>⟨ha.1,y4l ha.2 hb⟩
section
variable {s:ByteArray} {tq:Nat} {k:Int} {w:World}
theorem y4n(s:ByteArray):(s.extract (wdI (bl s)) (wdJ (bl s))).data.toList=wdW (bl s):=by
 rw[y3j s _ _ (yAq _) (by rw[<-zJ];exact y4p _)];rfl
theorem y8Q(s:ByteArray)(h:wdJ (bl s)<s.size):bl (restB s)=(bl s).drop (wdJ (bl s)+1):=by
 unfold restB;rw[y3k s _ (by omega)]
theorem yIi(m:Nat):letI:=pI s tq k;∀(l:List (List UInt8)) (j:Nat),(∀i x,l[i]?=some x->(wdW (bl s)==x)=Nat.beq (j+i) m)->y1P (eqP l j m)
 | [],_,_=>trivial
 | x::l,j,h=>
  letI:=pI s tq k
  ⟨y5i (s:=s.extract (wdI (bl s)) (wdJ (bl s))) (t:=⟨⟨x⟩⟩) (fun _=>rfl) (fun _=>rfl) (by rw[y4n];exact h 0 x rfl),yIi m l (j+1) fun i y hy=>by rw[h (i+1) y (by simpa using hy)];congr 1;omega⟩
theorem y4F(hs:s.size<=1000000):letI:=pI s tq k;COk w cP:=
 letI:=pI s tq k
 ⟨[.string s],_,fun _=>rfl,fun _=>rfl,fun w' _=>yGh s w' hs⟩
theorem y4E:letI:=pI s tq k;AllP LenOk lP:=
 letI:=pI s tq k
 ⟨⟨s,rfl,fun _=>rfl⟩,⟨restB s,rfl,fun _=>rfl⟩,trivial⟩
theorem yJD:letI:=pI s tq k;y5u (.sym 0,some (.sym 1),some (.sym 2),.sym 4):=
 letI:=pI s tq k
 ⟨s,wdI (bl s),wdJ (bl s),fun _=>rfl,⟨.i64,fun _=>rfl⟩,⟨.i64,fun _=>rfl⟩,yAq _,by rw[<-zJ];exact y4p _,fun _=>rfl⟩
theorem y7C(h:wdJ (bl s)<s.size):letI:=pI s tq k;AllP y5u sP:=
 letI:=pI s tq k
 ⟨yJD,⟨s,wdJ (bl s)+1,s.size,fun _=>rfl,⟨.i64,fun _=>rfl⟩,rfl,by omega,zA,fun _=>rfl⟩,⟨s,0,wdJ (bl s)+1,fun _=>rfl,rfl,⟨.i64,fun _=>rfl⟩,zD,by omega,fun _=>rfl⟩,trivial⟩
theorem y64(h:wdJ (bl s)<s.size):letI:=pI s tq k;AllP ByOk iP:=
 letI:=pI s tq k
 ⟨⟨s,wdJ (bl s),.i64,fun _=>rfl,fun _=>rfl,h,fun _=>by rw[<-y9C s _ h];rfl⟩,trivial⟩
theorem yIG(v:Bool)(h:decide (wdI (bl s)=s.size)=v):letI:=pI s tq k;BOk (.eql,.sym 1,.sym 3,lB v):=
 letI:=pI s tq k
 y0S (a:=(wdI (bl s):Int)) (c:=s.size) (k:=.i64) (fun _=>rfl) (fun _=>rfl) (by rw[<-h,Bool.eq_iff_iff];simp;omega)
theorem yJw(v:Bool)(h:decide (wdJ (bl s)=s.size)=v):letI:=pI s tq k;BOk (.eql,.sym 2,.sym 3,lB v):=
 letI:=pI s tq k
 y0S (a:=(wdJ (bl s):Int)) (c:=s.size) (k:=.i64) (fun _=>rfl) (fun _=>rfl) (by rw[<-h,Bool.eq_iff_iff];simp;omega)
theorem e3_ok(v:Bool)(hj:wdJ (bl s)<s.size)(h:decide ((bl s)[wdJ (bl s)]?≠some 32)=v):letI:=pI s tq k;BOk (.neq,.sym 24,u8 32,lB v):=by
 letI:=pI s tq k
 refine yAi (a:=(byN (bl s) (wdJ (bl s)):Int)) (c:=((32:Nat):Int)) (k:=.u8) (fun _=>rfl) (fun _=>rfl) ?_;rw[<-h];obtain⟨c,hc⟩:=zM (bl s) (wdJ (bl s)) (by rw[zJ];exact hj);unfold byN;rw[hc];have:∀c:UInt8,((c.toNat:Int) != ((32:Nat):Int))=decide (some c≠some (32:UInt8)):=y07 (by decide +kernel);exact this c
theorem y7y(m:Nat)(hs:s.size<=1000000)(h1:wdI (bl s)≠s.size)(h2:wdJ (bl s)<s.size)(h3:(bl s)[wdJ (bl s)]?=some 32)(hm:∀i x,nmP[i]?=some x->(wdW (bl s)==x)=Nat.beq (0+i) m):letI:=pI s tq k;y1P (bP m):=
 letI:=pI s tq k
 ⟨yIG false (by simpa using h1),yJw false (by simp;omega),e3_ok false h2 (by simp[h3]),y3P (a:=(wdJ (bl s):Int)) (c:=1) (k:=.i64) (fun _=>rfl) (fun _=>rfl) (fun _=>rfl) (wi64 _ (by omega) (by omega)),yIi m nmP 0 hm⟩
theorem y42{x r:At}{b:ByteArray}(hx:letI:=pI s tq k;∀ρ,x.den ρ=some (.string b))(hr:letI:=pI s tq k;∀ρ,r.den ρ=some (.string b))(hb:b.size<=1000000):letI:=pI s tq k;WOk w (mk [x] r):=by
 letI:=pI s tq k
 have e:(⟨([b].map bl).flatten.toArray⟩:ByteArray)=b:=by simp[bl]
 exact yAp [b] (fun ρ=>by simp only[dens,hx ρ];rfl) (fun ρ=>by rw[hr ρ,e]) (by simp) (by simp;omega)
end
theorem y5O{I:Sym}{ρ:Rho}{x:At}{t:ByteArray}{r:List At}{us:List Value}(h:x.den ρ=some (.string t))(hr:dens ρ r=some us):dens ρ (mA x++r)=some (pcV (mkP t)++us):=ze.2 ⟨_,_,rfl,ze.2 ⟨_,_,rfl,ze.2 ⟨_,_,h,hr,rfl⟩,rfl⟩,rfl⟩
theorem yDl{I:Sym}{ρ:Rho}{n:List UInt8}{x:At}{t:ByteArray}{r:List At}{us:List Value}(h:x.den ρ=some (.string t))(hr:dens ρ r=some us):dens ρ (tA n x++r)=some (pcV (txP ⟨⟨n⟩⟩ t)++us):=ze.2 ⟨_,_,rfl,ze.2 ⟨_,_,rfl,ze.2 ⟨_,_,h,hr,rfl⟩,rfl⟩,rfl⟩
def CP(s:ByteArray)(w:World)(b:Bool)(L:List Pc):Prop:=Calls prog 165 #[.string s] w fun e w'=>(∃x,e=.returned (.tuple #[x,.bool b])/\(b=true->y1q w' x L.length (pcC L)))/\Below w.heap.size w w'
theorem y8b{s:ByteArray}{w:World}{T:Told}{b:Bool}{n:Nat}{r:List At}{us:List Value}{L:List Pc}(tq:Nat)(k:Int)(hG:GW w)(hT:letI:=pI s tq k;y1p w T)(h:runP T=some (n,r,b))(hd:letI:=pI s tq k;∀ρ,dens ρ r=some us)(hL:b=true->n=L.length/\us=pcC L):CP s w b L:=
 letI:=pI s tq k
 (y6z (vals:=[.string s]) hG hT rfl h hd).mono fun e w' ⟨⟨x,h1,h2⟩,hb⟩=>⟨⟨x,h1,fun e=>by obtain⟨a,c⟩:=hL e;rw[<-a,<-c];exact h2⟩,hb⟩
theorem ok_m{s:ByteArray}{w:World}{T:Told}{b:Bool}(hG:GW w)(hT:letI:=pI s 0 0;y1p w T)(h:runP T=rM b):CP s w b [mkP s]:=by
 cases b with
 | true=>exact y8b 0 0 hG hT h (fun ρ=>rfl) (fun _=>⟨rfl,rfl⟩)
 | false=>exact y8b (us:=[]) 0 0 hG hT h (fun ρ=>rfl) (fun e=>by cases e)
theorem ok_n{s:ByteArray}{w:World}{T:Told}{L:List Pc}(tq:Nat)(k:Int)(hG:GW w)(hT:letI:=pI s tq k;y1p w T)(h:runP T=some (0,[],false)):CP s w false L:=
 y8b (us:=[]) tq k hG hT h (fun ρ=>rfl) (fun e=>by cases e)
theorem sg_le(s:ByteArray)(tq:Nat)(h1:wdJ (bl s)+1<=tq)(h2:tq<=s.size):wdJ (bl s)+1+sgN s tq<=tq/\sgN s tq<=1:=by
 have hz:(s.extract (wdJ (bl s)+1) tq).size=tq-(wdJ (bl s)+1):=by rw[zG];omega
 unfold sgN valT;split
 . split
   . rename_i hc H5
     unfold y0z at H5;rw[if_pos hc]at H5;simp only[Bool.and_eq_true,decide_eq_true_eq]at H5;have:=H5.1.1.1;rw[zJ,hz]at this;simp only;omega
   . simp only
     omega
 . simp only
   omega
theorem y4H(s:ByteArray)(w:World)(hG:GW w)(hs:s.size<=1000000)(m tq:Nat)(k:Int)(at_:At)(b2:List BinF)(s2:List SliF)(c2:List SymF)(H9:letI:=pI s tq k;∀ρ,at_.den ρ=some (.int .i64 (tq:Int)))
 (h1:wdI (bl s)≠s.size) (h2:wdJ (bl s)<s.size) (h3:(bl s)[wdJ (bl s)]?=some 32) (hm:∀i x,nmP[i]?=some x->(wdW (bl s)==x)=Nat.beq (0+i) m) (H8:wdJ (bl s)+1<=tq) (H5:tq<=s.size)
 (Hd:letI:=pI s tq k;y1P b2) (Ha:letI:=pI s tq k;AllP y5u s2) (Hc:letI:=pI s tq k;AllP (COk w) c2)
 (nm:List UInt8) (H6:∀ok v,runP (tVal m at_ b2 s2 c2 ok v)=rV nm ok v):CP s w (y0z (bl (s.extract (wdJ (bl s)+1) tq))) (valP s ⟨⟨nm⟩⟩ (wdJ (bl s)+1) tq):=by
 obtain⟨A,hA⟩:∃A,A=s.extract (wdJ (bl s)+1) tq:=⟨_,rfl⟩;have He:A.size=tq-(wdJ (bl s)+1):=by rw[hA,zG];omega
 have kv:∀w',Below w.heap.size w w'->Calls prog 319 #[.string A] w' fun e w''=>e=.returned (.tuple #[.string (valT A).1,.int .i64 (valT A).2,.bool (y0z (bl A))])/\Below w'.heap.size w' w'':=fun w' hb=>yDZ A w' (hG.bel hb) (by omega)
 obtain⟨g1,g2⟩:=sg_le s tq H8 H5;obtain⟨v,hv⟩:∃v,((s.extract (tq-sgN s tq) s.size).data.toList==([]:List UInt8)) = !v:=⟨_,(Bool.not_not _).symm⟩;have hT:letI:=pI s tq k;y1p w (tVal m at_ b2 s2 c2 (y0z (bl A)) v):=by
  letI:=pI s tq k
  exact⟨⟨y3P (a:=((wdJ (bl s)+1:Nat):Int)) (c:=(sgN s tq:Int)) (k:=.i64) (fun _=>rfl) (fun _=>rfl) (fun _=>rfl) (wi64 _ (by omega) (by omega)),
   y4k (a:=(tq:Int)) (c:=(sgN s tq:Int)) (k:=.i64) H9 (fun _=>rfl) (fun _=>by rw[show(tq:Int)-(sgN s tq:Int)=((tq-sgN s tq:Nat):Int) by omega];rfl) (wi64 _ (by omega) (by omega)),
   yGX (s:=s.extract (tq-sgN s tq) s.size) (t:=⟨⟨[]⟩⟩) (fun _=>rfl) (fun _=>rfl) hv,y4l Hd (y7y m hs h1 h2 h3 hm)⟩,y64 h2,
   ⟨⟨s,wdJ (bl s)+1,tq,fun _=>rfl,⟨.i64,fun _=>rfl⟩,⟨.i64,H9⟩,H8,H5,fun _=>rfl⟩,⟨s,wdJ (bl s)+1,wdJ (bl s)+1+sgN s tq,fun _=>rfl,⟨.i64,fun _=>rfl⟩,⟨.i64,fun _=>rfl⟩,by omega,by omega,fun _=>rfl⟩,⟨s,tq-sgN s tq,s.size,fun _=>rfl,⟨.i64,fun _=>rfl⟩,rfl,by omega,zA,fun _=>rfl⟩,y1h Ha (y7C h2)⟩,y4E,
   ⟨⟨[.string A],_,fun _=>by rw[hA];rfl,fun _=>by rw[hA];rfl,fun w' hb=>by have:=kv w' hb;rw[hA]at this ⊢;exact this⟩,y1h Hc ⟨y4F hs,trivial⟩⟩,
   ⟨yAp [s.extract 0 (wdJ (bl s)+1),s.extract (wdJ (bl s)+1) (wdJ (bl s)+1+sgN s tq)] (fun _=>rfl) (fun _=>rfl) (by simp) (by simp[zJ,zG];omega),y42 (b:=s.extract (tq-sgN s tq) s.size) (fun _=>rfl) (fun _=>rfl) (by rw[zG];omega),trivial⟩,trivial⟩
 have H7:v=decide (tq-sgN s tq<s.size):=by
  have e:v = !(s.extract (tq-sgN s tq) s.size).data.toList.isEmpty:=by
   rw[<-Bool.not_not v,<-hv];cases(s.extract (tq-sgN s tq) s.size).data.toList<;>rfl
  rw[e,Bool.eq_iff_iff,decide_eq_true_iff];have hz:((s.extract (tq-sgN s tq) s.size).data.toList).length=s.size-(tq-sgN s tq):=by rw[zJ,zG];omega
  rw[Bool.not_eq_true',<-Bool.not_eq_true,List.isEmpty_iff,<-List.length_eq_zero_iff,hz];omega
 have Hb:(⟨([s.extract 0 (wdJ (bl s)+1),s.extract (wdJ (bl s)+1) (wdJ (bl s)+1+sgN s tq)].map bl).flatten.toArray⟩:ByteArray)=s.extract 0 (wdJ (bl s)+1+sgN s tq):=by
  apply ByteArray.ext;apply Array.ext';show([s.extract 0 (wdJ (bl s)+1),s.extract (wdJ (bl s)+1) (wdJ (bl s)+1+sgN s tq)].map bl).flatten=bl (s.extract 0 (wdJ (bl s)+1+sgN s tq));rw[<-y1L s 0 (wdJ (bl s)+1) (wdJ (bl s)+1+sgN s tq) zD (Nat.le_add_right _ _),List.map_cons,List.map_cons,List.map_nil,List.flatten_cons,List.flatten_cons,List.flatten_nil,List.append_nil]
 have hr:=H6 (y0z (bl A)) v;rw[<-hA];cases ho:y0z (bl A)with
 | false=>rw[ho]at hr hT;exact ok_n tq k hG hT hr
 | true=>
  rw[ho]at hr hT;have hP:valP s ⟨⟨nm⟩⟩ (wdJ (bl s)+1) tq=mkP (s.extract 0 (wdJ (bl s)+1+sgN s tq))::txP ⟨⟨nm⟩⟩ (valT (s.extract (wdJ (bl s)+1) tq)).1::(if tq-sgN s tq<s.size then [mkP (s.extract (tq-sgN s tq) s.size)]else []):=rfl;rw[hP,<-Hb];cases v with
  | true=>rw[if_pos (of_decide_eq_true H7.symm)];exact y8b tq k hG hT hr (fun ρ=>y5O rfl (yDl rfl (y5O rfl rfl))) (fun _=>⟨rfl,rfl⟩)
  | false=>rw[if_neg (of_decide_eq_false H7.symm)];exact y8b tq k hG hT hr (fun ρ=>y5O rfl (yDl rfl rfl)) (fun _=>⟨rfl,rfl⟩)
theorem y4D{l:List UInt8}{m:Nat}(x:List UInt8)(hx:nmP[m]?=some x)(hl:l=x):∀i y,nmP[i]?=some y->(l==y)=Nat.beq (0+i) m:=by
 subst hl;intro i y hy;have hm:m<12:=(List.getElem?_eq_some_iff.1 hx).1;have hi:i<12:=(List.getElem?_eq_some_iff.1 hy).1;have key:∀i j:Fin 12,(nmP[j.val]?==nmP[i.val]?)=Nat.beq (0+i.val) j.val:=by decide
 have:=key ⟨i,hi⟩ ⟨m,hm⟩;simp only[hx,hy]at this;rw[<-this];rfl
theorem nm_no{l:List UInt8}(h:∀x∈nmP,l≠x):∀i y,nmP[i]?=some y->(l==y)=Nat.beq (0+i) 12:=by
 intro i y hy;have hi:i<12:=(List.getElem?_eq_some_iff.1 hy).1;have h1:(l==y)=false:=by rw[Y2];exact h y (List.mem_of_getElem? hy)
 have h2:Nat.beq (0+i) 12=false:=by
  cases hb:Nat.beq (0+i) 12 with
  | false=>rfl
  | true=>have:=Nat.eq_of_beq_eq_true hb;omega
 rw[h1,h2]
def lbI(b:ByteArray):Int:=Lib.lastIdx b 32 b.size
theorem yHn(b:ByteArray)(k:Nat)(h:fB (bl b) b.size=some k):lbI b=(k:Int):=by unfold lbI;rw[y3d b _ zA,h]
theorem yHo(b:ByteArray)(h:fB (bl b) b.size=none):lbI b = -1:=by unfold lbI;rw[y3d b _ zA,h]
theorem yHq(b:ByteArray)(hb:b.size<=1000000)(w':World):Calls prog 252 #[.string b,.string ⟨⟨[32]⟩⟩] w' fun e w''=>e=.returned (.int .i64 (lbI b))/\Below w'.heap.size w' w'':=
 (Tryz.strings_LastIndex_one b ⟨#[32]⟩ rfl (by omega) w').mono fun e w'' q=>⟨q.1,by rw[q.2];exact z8⟩
theorem yAX(s:ByteArray)(w:World)(hG:GW w)(hs:s.size<=1000000):CP s w (y3O (bl s)) (cueL s):=by
 have H5:=zJ s;have Hb:wdJ (bl s)<=s.size:=by rw[<-H5];exact y4p _
 unfold y3O cueL;simp only;rw[H5];by_cases h1:wdI (bl s)=s.size
 . rw[if_pos h1,if_pos h1]
   obtain⟨v,hv⟩:∃v,(s.data.toList==([]:List UInt8))=v:=⟨_,rfl⟩;have hT:letI:=pI s 0 0;y1p w (tP0 v):=letI:=pI s 0 0
    ⟨⟨yIG true (by simpa using h1),y5i (s:=s) (t:=⟨⟨[]⟩⟩) (fun _=>rfl) (fun _=>rfl) hv,trivial⟩,trivial,trivial,y4E,⟨y4F hs,trivial⟩,⟨y42 (b:=s) (fun _=>rfl) (fun _=>rfl) hs,trivial⟩,trivial⟩
   have hr:=p0 v;have H7:s.size=0↔v=true:=by
    rw[<-hv,<-H5,List.length_eq_zero_iff];show _↔(bl s == [])=true;rw[beq_iff_eq]
   cases v with
   | true=>rw[if_pos (H7.2 rfl)];exact y8b 0 0 hG hT hr (fun ρ=>rfl) (fun _=>⟨rfl,rfl⟩)
   | false=>rw[if_neg (fun e=>by have:=H7.1 e;cases this)];exact y8b 0 0 hG hT hr (fun ρ=>rfl) (fun _=>⟨rfl,rfl⟩)
 . rw[if_neg h1,if_neg h1]
   by_cases h2:wdJ (bl s)=s.size
   . rw[if_pos h2,if_pos h2]
     exact ok_m hG (T:=tP1 (wdW (bl s)==remL)) (letI:=pI s 0 0;⟨⟨yIG false (by simpa using h1),yJw true (by simpa using h2),y5i (s:=s.extract (wdI (bl s)) (wdJ (bl s))) (t:=⟨⟨remL⟩⟩) (fun _=>rfl) (fun _=>rfl) (by rw[y4n]),trivial⟩,trivial,⟨yJD,trivial⟩,y4E,⟨y4F hs,trivial⟩,⟨y42 (b:=s) (fun _=>rfl) (fun _=>rfl) hs,trivial⟩,trivial⟩) (p1 _)
   . rw[if_neg h2,if_neg h2]
     have hj:wdJ (bl s)<s.size:=by omega
     by_cases h3:(bl s)[wdJ (bl s)]?=some 32
     . rw[if_neg (by simpa using h3),<-y8Q s hj]
       have Hf:(restB s).size=s.size-(wdJ (bl s)+1):=by unfold restB;rw[zG];omega
       have H6:=zJ (restB s);have hex:restB s=s.extract (wdJ (bl s)+1) s.size:=rfl;unfold y3y;by_cases c0:wdW (bl s)=remL
       . rw[if_pos c0,if_pos c0]
         exact y8b 0 0 hG (T:=tR) (letI:=pI s 0 0;⟨y7y 0 hs h1 hj h3 (y4D remL rfl c0),y64 hj,y7C hj,y4E,⟨y4F hs,trivial⟩,⟨y42 (b:=s.extract 0 (wdJ (bl s)+1)) (fun _=>rfl) (fun _=>rfl) (by rw[zG];omega),trivial⟩,trivial⟩) pR (fun ρ=>y5O rfl (yDl rfl rfl)) (fun _=>⟨rfl,rfl⟩)
       . rw[if_neg c0,if_neg c0]
         by_cases c1:wdW (bl s)=titL\/wdW (bl s)=perL\/wdW (bl s)=sonL
         . rw[if_pos c1,hex]
           rcases c1 with c|c|c
           . rw[if_pos c];exact y4H s w hG hs 1 s.size 0 (.sym 3) [] [] [] (fun _=>rfl) h1 hj h3 (y4D titL rfl c) (by omega) zA trivial trivial trivial _ pV1
           . rw[if_neg (by rw[c];decide),if_pos c];exact y4H s w hG hs 2 s.size 0 (.sym 3) [] [] [] (fun _=>rfl) h1 hj h3 (y4D perL rfl c) (by omega) zA trivial trivial trivial _ pV2
           . rw[if_neg (by rw[c];decide),if_neg (by rw[c];decide),if_pos c];exact y4H s w hG hs 3 s.size 0 (.sym 3) [] [] [] (fun _=>rfl) h1 hj h3 (y4D sonL rfl c) (by omega) zA trivial trivial trivial _ pV3
         . rw[if_neg c1,if_neg (fun c=>c1 (.inl c)),if_neg (fun c=>c1 (.inr (.inl c))),if_neg (fun c=>c1 (.inr (.inr c)))]
           by_cases c2:wdW (bl s)=filL
           . rw[if_pos c2,if_pos c2]
             have hm:=y4D filL (m:=4) rfl c2;have kl:=yHq (restB s) (by omega);rw[show y62 (bl (restB s))=fB (bl (restB s)) (restB s).size from by unfold y62 fB;rw[H6]];cases hf:fB (bl (restB s)) (restB s).size with
             | none=>
              rw[yHo _ hf]at kl;exact ok_n 0 (-1) hG (T:=tF0) (letI:=pI s 0 (-1);⟨⟨y3q (a:=-1) (c:=0) (k:=.i64) (fun _=>rfl) (fun _=>rfl) (by decide),y7y 4 hs h1 hj h3 hm⟩,y64 hj,y7C hj,y4E,⟨⟨[.string (restB s),.string ⟨⟨[32]⟩⟩],_,fun _=>rfl,fun _=>rfl,fun w' _=>kl w'⟩,y4F hs,trivial⟩,trivial,trivial⟩) pF0
             | some k=>
              rw[yHn _ k hf]at kl;have hk:=yJt _ _ _ hf;simp only;have Hc:bl ((restB s).extract (k+1) (restB s).size)=(bl (restB s)).drop (k+1):=by
               rw[y3k (restB s) (k+1) (by omega)]
              have kc:∀w',Calls prog 253 #[.string ((restB s).extract (k+1) (restB s).size)] w' fun e w''=>e=.returned (.bool (cpsL ((bl (restB s)).drop (k+1))))/\Below w'.heap.size w' w'':=fun w'=>by
               rw[<-Hc];exact y5S _ w' (by rw[zG];omega)
              have H9:bl (s.extract (wdJ (bl s)+1) (wdJ (bl s)+1+k))=(bl (restB s)).take k:=by
               show(s.extract (wdJ (bl s)+1) (wdJ (bl s)+1+k)).data.toList=_;rw[y3j s _ _ (by omega) (by omega),y8Q s hj]
               congr 1
               omega
              rw[<-H9];have fb:letI:=pI s (wdJ (bl s)+1+k) (k:Int);y1P bF:=
               letI:=pI s (wdJ (bl s)+1+k) (k:Int)
               ⟨y3q (a:=(k:Int)) (c:=0) (k:=.i64) (fun _=>rfl) (fun _=>rfl) (by simp),y3P (a:=(k:Int)) (c:=1) (k:=.i64) (fun _=>rfl) (fun _=>rfl) (fun _=>rfl) (wi64 _ (by omega) (by omega)),y3P (a:=((wdJ (bl s)+1:Nat):Int)) (c:=(k:Int)) (k:=.i64) (fun _=>rfl) (fun _=>rfl) (fun _=>by rw[show((wdJ (bl s)+1:Nat):Int)+(k:Int)=((wdJ (bl s)+1+k:Nat):Int) from by omega];rfl) (wi64 _ (by omega) (by omega)),trivial⟩
              have fs:letI:=pI s (wdJ (bl s)+1+k) (k:Int);AllP y5u sF:=
               letI:=pI s (wdJ (bl s)+1+k) (k:Int)
               ⟨⟨restB s,k+1,(restB s).size,fun _=>rfl,⟨.i64,fun _=>rfl⟩,rfl,by omega,zA,fun _=>rfl⟩,trivial⟩
              cases hc:cpsL ((bl (restB s)).drop (k+1))with
              | false=>
               rw[hc]at kc;rw[Bool.false_and];exact ok_n (wdJ (bl s)+1+k) (k:Int) hG (T:=tF1) (letI:=pI s (wdJ (bl s)+1+k) (k:Int);⟨y4l fb (y7y 4 hs h1 hj h3 hm),y64 hj,y1h fs (y7C hj),y4E,⟨⟨[.string (restB s),.string ⟨⟨[32]⟩⟩],_,fun _=>rfl,fun _=>rfl,fun w' _=>kl w'⟩,⟨[.string ((restB s).extract (k+1) (restB s).size)],_,fun _=>rfl,fun _=>rfl,fun w' _=>kc w'⟩,y4F hs,trivial⟩,trivial,trivial⟩) pF1
              | true=>
               rw[hc]at kc;rw[Bool.true_and];exact y4H s w hG hs 4 (wdJ (bl s)+1+k) (k:Int) (.sym 8) bF sF (cF2 true) (fun _=>rfl) h1 hj h3 hm (by omega) (by omega) fb fs
                (letI:=pI s (wdJ (bl s)+1+k) (k:Int);⟨⟨[.string (restB s),.string ⟨⟨[32]⟩⟩],_,fun _=>rfl,fun _=>rfl,fun w' _=>kl w'⟩,⟨[.string ((restB s).extract (k+1) (restB s).size)],_,fun _=>rfl,fun _=>rfl,fun w' _=>kc w'⟩,trivial⟩) _ pF
           . rw[if_neg c2,if_neg c2]
             have numc:∀(m:Nat) (p:List UInt8->Bool) (c:Bool->SymF),(∀i x,nmP[i]?=some x->(wdW (bl s)==x)=Nat.beq (0+i) m)->(∀a b r,runP (tN m (c r) true a b)=rM (a&&b&&r))->runP (tN0 m)=some (0,[],false) ->
              (letI:=pI s 0 0;2<(restB s).size->COk w (c (p ((bl (restB s)).drop 3))))->CP s w (numb p (bl (restB s))) [mkP s]:=by
              intro m p c hm hr Ha hc;unfold numb;rw[H6];by_cases hg:2<(restB s).size
              . rw[decide_eq_true hg,Bool.true_and]
                have He:bl ((restB s).extract 0 2)=(bl (restB s)).take 2:=by
                 show((restB s).extract 0 2).data.toList=_;rw[y3j (restB s) 0 2 (by omega) (by omega)];rfl
                have kk:∀w',Calls prog 164 #[.string ((restB s).extract 0 2),.string ⟨⟨nnL⟩⟩] w' fun e w''=>e=.returned (.bool (zW ((bl (restB s)).take 2) nnL))/\Below w'.heap.size w' w'':=fun w'=>by
                 rw[<-He];exact y0v _ ⟨⟨nnL⟩⟩ w' (by rw[zG];omega) (by decide)
                have Hd:∀c:UInt8,((c.toNat:Int)==((32:Nat):Int))=(some c==some (32:UInt8)):=y07 (by decide +kernel);obtain⟨x,hx⟩:=zM (bl (restB s)) 2 (by rw[H6];exact hg);refine ok_m hG (T:=tN m (c (p ((bl (restB s)).drop 3))) true (zW ((bl (restB s)).take 2) nnL) ((bl (restB s))[2]?==some 32)) (letI:=pI s 0 0;⟨⟨y7x (a:=(restB s).size) (c:=2) (k:=.i64) (fun _=>rfl) (fun _=>rfl) (by simp;omega),
                 y0S (a:=(byN (bl (restB s)) 2:Int)) (c:=((32:Nat):Int)) (k:=.u8) (fun _=>rfl) (fun _=>rfl) (by unfold byN;rw[hx];exact Hd x),y7y m hs h1 hj h3 hm⟩,
                 ⟨⟨restB s,2,.i64,fun _=>rfl,fun _=>rfl,hg,fun _=>by rw[<-y9C (restB s) 2 hg];rfl⟩,y64 hj⟩,⟨⟨restB s,0,2,fun _=>rfl,rfl,⟨.i64,fun _=>rfl⟩,by omega,by omega,fun _=>rfl⟩,⟨restB s,3,(restB s).size,fun _=>rfl,⟨.i64,fun _=>rfl⟩,rfl,by omega,zA,fun _=>rfl⟩,y7C hj⟩,y4E,
                 ⟨⟨[.string ((restB s).extract 0 2),.string ⟨⟨nnL⟩⟩],_,fun _=>rfl,fun _=>rfl,fun w' _=>kk w'⟩,hc hg,y4F hs,trivial⟩,⟨y42 (b:=s) (fun _=>rfl) (fun _=>rfl) hs,trivial⟩,trivial⟩) (hr _ _ _)
              . rw[decide_eq_false hg,Bool.false_and,Bool.false_and,Bool.false_and]
                exact ok_n 0 0 hG (T:=tN0 m) (letI:=pI s 0 0;⟨⟨y7x (a:=(restB s).size) (c:=2) (k:=.i64) (fun _=>rfl) (fun _=>rfl) (by simp;omega),y7y m hs h1 hj h3 hm⟩,y64 hj,y7C hj,y4E,⟨y4F hs,trivial⟩,⟨y42 (b:=s) (fun _=>rfl) (fun _=>rfl) hs,trivial⟩,trivial⟩) Ha
             have H8:2<(restB s).size->bl ((restB s).extract 3 (restB s).size)=(bl (restB s)).drop 3:=fun hg=>by rw[y3k (restB s) 3 (by omega)]
             have kg:∀w',Calls prog 164 #[.string (restB s),.string ⟨⟨momL⟩⟩] w' fun e w''=>e=.returned (.bool (zW (bl (restB s)) momL))/\Below w'.heap.size w' w'':=fun w'=>y0v (restB s) ⟨⟨momL⟩⟩ w' (by omega) (by decide)
             have kw:∀w',Calls prog 256 #[.string (restB s)] w' fun e w''=>e=.returned (.bool (y0F (bl (restB s))))/\Below w'.heap.size w' w'':=fun w'=>yAZ (restB s) w' (by omega)
             by_cases c3:wdW (bl s)=traL
             . rw[if_pos c3]
               refine numc 5 cpsL cCap (y4D traL rfl c3) pN5 pN05 fun hg=>⟨[.string ((restB s).extract 3 (restB s).size)],_,fun _=>rfl,fun _=>rfl,fun w' _=>?_⟩
               rw[<-H8 hg];exact y5S _ w' (by rw[zG];omega)
             . rw[if_neg c3]
               by_cases c4:wdW (bl s)=indL
               . rw[if_pos c4]
                 refine numc 6 (fun x=>zW x momL) cMom (y4D indL rfl c4) pN6 pN06 fun hg=>⟨[.string ((restB s).extract 3 (restB s).size),.string ⟨⟨momL⟩⟩],_,fun _=>rfl,fun _=>rfl,fun w' _=>?_⟩
                 rw[<-H8 hg];exact y0v _ ⟨⟨momL⟩⟩ w' (by rw[zG];omega) (by decide)
               . rw[if_neg c4]
                 have gc:∀m,(∀i x,nmP[i]?=some x->(wdW (bl s)==x)=Nat.beq (0+i) m)->(letI:=pI s 0 0;y1p w (tG m (zW (bl (restB s)) momL))):=fun m hm=>
                  letI:=pI s 0 0
                  ⟨y7y m hs h1 hj h3 hm,y64 hj,y7C hj,y4E,⟨⟨[.string (restB s),.string ⟨⟨momL⟩⟩],_,fun _=>rfl,fun _=>rfl,fun w' _=>kg w'⟩,y4F hs,trivial⟩,⟨y42 (b:=s) (fun _=>rfl) (fun _=>rfl) hs,trivial⟩,trivial⟩
                 have lc:∀m,(∀i x,nmP[i]?=some x->(wdW (bl s)==x)=Nat.beq (0+i) m)->(letI:=pI s 0 0;y1p w (tL m (y0F (bl (restB s))))):=fun m hm=>
                  letI:=pI s 0 0
                  ⟨y7y m hs h1 hj h3 hm,y64 hj,y7C hj,y4E,⟨⟨[.string (restB s)],_,fun _=>rfl,fun _=>rfl,fun w' _=>kw w'⟩,y4F hs,trivial⟩,⟨y42 (b:=s) (fun _=>rfl) (fun _=>rfl) hs,trivial⟩,trivial⟩
                 by_cases c5:wdW (bl s)=preL\/wdW (bl s)=posL
                 . rw[if_pos c5]
                   rcases c5 with c|c
                   . exact ok_m hG (gc 7 (y4D preL rfl c)) (pG7 _)
                   . exact ok_m hG (gc 8 (y4D posL rfl c)) (pG8 _)
                 . rw[if_neg c5]
                   by_cases c6:wdW (bl s)=catL\/wdW (bl s)=isrL\/wdW (bl s)=flaL
                   . rw[if_pos c6]
                     rcases c6 with c|c|c
                     . exact ok_m hG (lc 9 (y4D catL rfl c)) (pL9 _)
                     . exact ok_m hG (lc 10 (y4D isrL rfl c)) (pL10 _)
                     . exact ok_m hG (lc 11 (y4D flaL rfl c)) (pL11 _)
                   . rw[if_neg c6]
                     have hm:=nm_no (l:=wdW (bl s)) (by
                      intro x hx;simp only[nmP,List.mem_cons,List.not_mem_nil,or_false]at hx;simp only[not_or]at c1 c5 c6;rcases hx with rfl|rfl|rfl|rfl|rfl|rfl|rfl|rfl|rfl|rfl|rfl|rfl
                      . exact c0
                      . exact c1.1
                      . exact c1.2.1
                      . exact c1.2.2
                      . exact c2
                      . exact c3
                      . exact c4
                      . exact c5.1
                      . exact c5.2
                      . exact c6.1
                      . exact c6.2.1
                      . exact c6.2.2)
                     exact ok_n 0 0 hG (T:=tXX) (letI:=pI s 0 0;⟨y7y 12 hs h1 hj h3 hm,y64 hj,y7C hj,y4E,⟨y4F hs,trivial⟩,trivial,trivial⟩) pX
     . rw[if_pos (by simpa using h3)]
       exact ok_n 0 0 hG (T:=tP2) (letI:=pI s 0 0;⟨⟨yIG false (by simpa using h1),yJw false (by simp;omega),e3_ok true hj (by simpa using h3),trivial⟩,y64 hj,⟨yJD,trivial⟩,y4E,⟨y4F hs,trivial⟩,trivial,trivial⟩) p2
