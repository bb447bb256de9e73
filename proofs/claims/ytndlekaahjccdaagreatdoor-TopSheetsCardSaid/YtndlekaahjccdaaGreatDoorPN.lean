/- PN -/
import Derived.Test.YtndlekaahjccdaaGreatDoorPM
set_option linter.all false
set_option maxRecDepth 100000
set_option maxHeartbeats 40000000
namespace Go.Proofs.YtndlekaahjccdaaGreatDoor
section
open Go Go.Rf Go.RowKit Go.Proofs.Tryz
theorem y63(l:List UInt8)(c:UInt8):decide (0<=Lib.indexByte l c)=l.contains c:=by
 induction l with
 | nil=>rfl
 | cons b l ih=>
  have H5:=Lib.indexByte_ge l c;rw[Lib.indexByte,List.contains_cons];by_cases h:b=c
  . subst h;simp
  . have h1:(b==c)=false:=by simpa using h
    have h2:(c==b)=false:=by simpa using fun e=>h e.symm
    rw[h1,h2,Bool.false_or,<-ih];by_cases hm:Lib.indexByte l c = -1
    . simp[hm]
    . have h3:(Lib.indexByte l c == -1)=false:=by simpa using hm
      simp only[h3,Bool.false_eq_true,if_false];rw[Bool.eq_iff_iff,decide_eq_true_iff,decide_eq_true_iff];omega
def quoL:List UInt8:=[34]
def vB:List BinF:=[(.sub,.sym 1,lI 1,.sym 2)]
def vSl:List SliF:=[(.sym 0,some (lI 1),some (.sym 2),.sym 3)]
def vI:List ByF:=[(.sym 0,lI 0,.sym 4),(.sym 0,.sym 2,.sym 5)]
def u8(n:Nat):At:=.lit (.int .u8 n)
def tV0(v:Bool):Told:={ b:=[(.neq,.sym 0,lS [],lB v)],l:=[(0,.sym 1)],c:=[(372,[.a (.sym 0),.a (lS quoL)],one1 (lB false))] }
def tV1:Told:={ b:=[(.lss,.sym 1,lI 2,lB true)],l:=[(0,.sym 1)],c:=[(372,[.a (.sym 0),.a (lS quoL)],one1 (lB true))] }
def tV2(p q r:Bool):Told:={ b:=(.lss,.sym 1,lI 2,lB false)::(.neq,.sym 4,u8 34,lB p)::(.neq,.sym 5,u8 34,lB q)::vB,i:=vI,s:=vSl,l:=[(0,.sym 1)],c:=[(372,[.a (.sym 0),.a (lS quoL)],one1 (lB true)),(372,[.a (.sym 3),.a (lS quoL)],one1 (lB r))] }
theorem rV0(v:Bool):symEv (tV0 v) 319 [.a (.sym 0)]=some (.t [.a (.sym 0),.a (lI 0),.a (lB v)]):=by cases v<;>kernel_rfl
theorem rV1:symEv tV1 319 [.a (.sym 0)]=some (.t [.a (lS []),.a (lI 0),.a (lB false)]):=by kernel_rfl
theorem rV2(p q r:Bool):symEv (tV2 p q r) 319 [.a (.sym 0)]=some (match p || q || r with|true=>.t [.a (lS []),.a (lI 0),.a (lB false)]|false=>.t [.a (.sym 3),.a (lI 1),.a (lB true)]):=by cases p<;>cases q<;>cases r<;>kernel_rfl
def valT(s:ByteArray):ByteArray×Nat:=if(bl s).contains 34 then(if y0z (bl s)then(s.extract 1 (s.size-1),1)else(⟨#[]⟩,0))else(s,0)
theorem y07{p:UInt8->Prop}(h:∀i:Fin 256,p (UInt8.ofNat i.val))(c:UInt8):p c:=by
 have:=h ⟨c.toNat,c.toNat_lt⟩
 rwa [show UInt8.ofNat c.toNat=c from by apply UInt8.toNat_inj.1;rw[UInt8.toNat_ofNat'];have:=c.toNat_lt;omega]at this
theorem yDZ(s:ByteArray)(w:World)(hG:GW w)(hs:s.size<=1000000):Calls prog 319 #[.string s] w fun e w'=>e=.returned (.tuple #[.string (valT s).1,.int .i64 (valT s).2,.bool (y0z (bl s))])/\Below w.heap.size w w':=by
 have H5:=zJ s;have kc:∀(x:ByteArray) w',Calls prog 372 #[.string x,.string ⟨⟨quoL⟩⟩] w' fun e w''=>e=.returned (.bool ((bl x).contains 34))/\Below w'.heap.size w' w'':=fun x w'=>by
  rw[<-y63];exact(Tryz.strings_Contains_one x 34 w').mono fun e w'' q=>⟨q.1,by rw[q.2];exact z8⟩
 have kc0:=kc s;cases hc:(bl s).contains 34 with
 | false=>
  rw[hc]at kc0;have e1:valT s=(s,0):=by unfold valT;rw[hc];rfl
  have e2:y0z (bl s) = !(bl s).isEmpty:=by unfold y0z;rw[hc];rfl
  rw[e1,e2]
  letI:=sgL [.string s,.int .i64 s.size] ⟨zU _,zV _ _,trivial⟩
  refine y0W (vals:=[.string s]) hG (T:=tV0 (!(bl s).isEmpty)) ⟨⟨yGX (s:=s) (t:=⟨⟨[]⟩⟩) (fun _=>rfl) (fun _=>rfl) ?_,trivial⟩,trivial,trivial,⟨⟨s,rfl,fun _=>rfl⟩,trivial⟩,⟨⟨[.string s,.string ⟨⟨quoL⟩⟩],_,fun _=>rfl,fun _=>rfl,fun w' _=>kc0 w'⟩,trivial⟩,trivial,trivial⟩ rfl (rV0 _) (fun _=>rfl);rw[Bool.not_not];show(bl s == [])=(bl s).isEmpty;cases bl s<;>rfl
 | true=>
  rw[hc]at kc0;have hL:AllP (letI:=sgL [.string s,.int .i64 s.size] ⟨zU _,zV _ _,trivial⟩;LenOk) [((0:Nat),At.sym 1)]:=⟨⟨s,rfl,fun _=>rfl⟩,trivial⟩;by_cases h2:s.size<2
  . have e2:y0z (bl s)=false:=by unfold y0z;rw[hc,if_pos rfl,decide_eq_false (by omega)];rfl
    have e1:valT s=(⟨#[]⟩,0):=by unfold valT;rw[hc,if_pos rfl,e2];rfl
    rw[e1,e2]
    letI:=sgL [.string s,.int .i64 s.size] ⟨zU _,zV _ _,trivial⟩
    exact y0W (vals:=[.string s]) hG (T:=tV1) ⟨⟨y3q (a:=s.size) (c:=2) (k:=.i64) (fun _=>rfl) (fun _=>rfl) (by simp;omega),trivial⟩,trivial,trivial,⟨⟨s,rfl,fun _=>rfl⟩,trivial⟩,⟨⟨[.string s,.string ⟨⟨quoL⟩⟩],_,fun _=>rfl,fun _=>rfl,fun w' _=>kc0 w'⟩,trivial⟩,trivial,trivial⟩ rfl rV1 (fun _=>rfl)
  . obtain⟨M,hM⟩:∃M,M=s.extract 1 (s.size-1):=⟨_,rfl⟩
    have H6:bl M=((bl s).drop 1).take ((bl s).length-2):=by
     rw[H5,hM];show(s.extract 1 (s.size-1)).data.toList=_;rw[y3j s 1 (s.size-1) (by omega) (by omega)]
     congr 1
    have kc1:=kc M;obtain⟨p,hp⟩:∃p,p=((s[0]'(by omega)) != 34):=⟨_,rfl⟩;obtain⟨q,hq⟩:∃q,q=((s[s.size-1]'(by omega)) != 34):=⟨_,rfl⟩;obtain⟨r,hr⟩:∃r,r=(bl M).contains 34:=⟨_,rfl⟩;rw[<-hr]at kc1;have hd:(bl s).head?=some (s[0]'(by omega)):=by
     rw[List.head?_eq_getElem?,List.getElem?_eq_getElem (by omega)];rfl
    have hg:(bl s).getLast?=some (s[s.size-1]'(by omega)):=by
     rw[List.getLast?_eq_getElem?,H5,List.getElem?_eq_getElem (by omega)];rfl
    have e2:y0z (bl s) = !(p || q || r):=by
     unfold y0z;rw[hc,if_pos rfl,hd,hg,<-H6,<-hr,decide_eq_true (by omega:2<=(bl s).length),hp,hq];simp only[Bool.true_and,Option.some_beq_some,bne,Bool.not_or,Bool.not_not]
    letI:=sgL [.string s,.int .i64 s.size,.int .i64 ((s.size-1:Nat):Int),.string M,.int .u8 ((s[0]'(by omega)).toNat:Int),.int .u8 ((s[s.size-1]'(by omega)).toNat:Int)] ⟨zU _,zV _ _,zV _ _,zU _,zV _ _,zV _ _,trivial⟩
    have e3:(s.size:Int)-1=((s.size-1:Nat):Int):=by omega
    have ne8:∀x:UInt8,(((x.toNat:Int)) != ((34:Nat):Int))=(x != 34):=y07 (by decide +kernel);have:=y0W (vals:=[.string s]) (v:=match p || q || r with|true=>.tuple #[.string ⟨⟨[]⟩⟩,.int .i64 0,.bool false]|false=>.tuple #[.string M,.int .i64 1,.bool true]) hG (T:=tV2 p q r) ⟨⟨y3q (a:=s.size) (c:=2) (k:=.i64) (fun _=>rfl) (fun _=>rfl) (by simp;omega),
     yAi (a:=((s[0]'(by omega)).toNat:Int)) (c:=((34:Nat):Int)) (k:=.u8) (fun _=>rfl) (fun _=>rfl) (by rw[hp];exact ne8 _),yAi (a:=((s[s.size-1]'(by omega)).toNat:Int)) (c:=((34:Nat):Int)) (k:=.u8) (fun _=>rfl) (fun _=>rfl) (by rw[hq];exact ne8 _),
     y4k (a:=s.size) (c:=1) (k:=.i64) (fun _=>rfl) (fun _=>rfl) (fun _=>by rw[e3];rfl) (wi64 _ (by omega) (by omega)),trivial⟩,
     ⟨⟨s,0,.i64,fun _=>rfl,fun _=>rfl,by omega,fun _=>rfl⟩,⟨s,s.size-1,.i64,fun _=>rfl,fun _=>rfl,by omega,fun _=>rfl⟩,trivial⟩,
     ⟨⟨s,1,s.size-1,fun _=>rfl,⟨.i64,fun _=>rfl⟩,⟨.i64,fun _=>rfl⟩,by omega,by omega,fun _=>by rw[<-hM];rfl⟩,trivial⟩,⟨⟨s,rfl,fun _=>rfl⟩,trivial⟩,
     ⟨⟨[.string s,.string ⟨⟨quoL⟩⟩],_,fun _=>rfl,fun _=>rfl,fun w' _=>kc0 w'⟩,⟨[.string M,.string ⟨⟨quoL⟩⟩],_,fun _=>rfl,fun _=>rfl,fun w' _=>kc1 w'⟩,trivial⟩,trivial,trivial⟩ rfl (rV2 p q r) (fun _=>by cases p<;>cases q<;>cases r<;>rfl)
    refine this.mono fun e w' z=>⟨?_,z.2⟩
    rw[z.1];have e1:valT s=if(p || q || r)=true then(⟨#[]⟩,0)else(M,1):=by
     unfold valT;rw[hc,if_pos rfl,e2,<-hM];cases p || q || r<;>rfl
    rw[e1,e2];cases p || q || r<;>rfl
end
open Go.RowKit Go.Proofs.Tryz
structure Pc where
 m:Bool
 n:ByteArray
 t:ByteArray
def pcV(p:Pc):List Value:=[.bool p.m,.string p.n,.string p.t]
def pcC(l:List Pc):List Value:=l.flatMap pcV
def mkN:ByteArray:=⟨#[109,97,114,107]⟩
def teN:ByteArray:=⟨#[116,101,120,116]⟩
def reN:ByteArray:=⟨#[114,101,109,97,114,107]⟩
def mkP(t:ByteArray):Pc:=⟨true,mkN,t⟩
def txP(n t:ByteArray):Pc:=⟨false,n,t⟩
def whL(l:List Pc):List UInt8:=l.flatMap fun p=>bl p.t
theorem y6n(a b:List Pc):whL (a++b)=whL a++whL b:=by simp[whL]
theorem zo(a b:List Pc):pcC (a++b)=pcC a++pcC b:=by simp[pcC]
theorem y0N:∀l:List Pc,(pcC l).length=l.length*3
 | []=>rfl
 | p::l=>by
  have:=y0N l;rw[show pcC (p::l)=pcV p++pcC l from rfl,zH,this];simp[pcV];omega
theorem y1N(s:ByteArray)(a b:Nat):bl (s.extract a b)=((bl s).drop a).take (b-a):=by
 unfold bl;simp[List.extract_eq_take_drop]
theorem y1L(s:ByteArray)(a b c:Nat)(h1:a<=b)(h2:b<=c):bl (s.extract a b)++bl (s.extract b c)=bl (s.extract a c):=by
 rw[y1N,y1N,y1N];have e1:(bl s).drop b=((bl s).drop a).drop (b-a):=by rw[List.drop_drop];congr 1;omega
 have e2:c-a=(b-a)+(c-b):=by omega
 rw[e1,e2,List.take_add]
theorem y26(s:ByteArray):bl (s.extract 0 s.size)=bl s:=by
 rw[y1N,List.drop_zero,Nat.sub_zero,<-zJ,List.take_length]
theorem yFq(s:ByteArray)(a:Nat):bl (s.extract a a) = []:=by rw[y1N,Nat.sub_self,List.take_zero]
def walkS{σ:Type}(step:σ->ByteArray->Option (σ×List Pc))(b:ByteArray):σ->List Pc->List (Nat×Nat×Nat)->(σ×List Pc) ⊕ Nat
 | st,acc,[]=>.inl (st,acc)
 | st,acc,(a,e,d)::r=>match step st (b.extract a e)with
  | none=>.inr a
  | some (st',ps)=>walkS step b st' (acc++ps++(if e<d then [mkP (b.extract e d)]else [])) r
def Whole{σ:Type}(step:σ->ByteArray->Option (σ×List Pc)):Prop:=∀st s st' ps,step st s=some (st',ps)->whL ps=bl s
theorem y4q{σ:Type}{step:σ->ByteArray->Option (σ×List Pc)}(h:Whole step)(b:ByteArray):∀(n a:Nat) (st:σ) (acc:List Pc) (st':σ) (l:List Pc),b.size-a<=n->a<=b.size->whL acc=bl (b.extract 0 a) ->
 walkS step b st acc (lnF (bl b) a)=.inl (st',l)->whL l=bl b
 | n,a,st,acc,st',l,hn,ha,hw,he=>by
  have hL:=zJ b;by_cases H6:a<b.size
  . rw[zq (bl b) a (by omega)]at he
    have e1:=y20 (bl b) a;have e2:=y2g (bl b) a (by omega);have e3:=y3C (bl b) (nxE (bl b) a);have e4:=y41 (bl b) _ e2;have e5:=y5J (bl b) a (by omega);generalize nxE (bl b) a=E at *;generalize nxB (bl b) E=D at *;unfold walkS at he;cases hs:step st (b.extract a E)with
    | none=>rw[hs]at he;cases he
    | some p=>
     obtain⟨st2,ps⟩:=p;rw[hs]at he;simp only at he;have hp:=h _ _ _ _ hs;have H5:whL (acc++ps++(if E<D then [mkP (b.extract E D)]else []))=bl (b.extract 0 D):=by
      rw[y6n,y6n,hw,hp,y1L b 0 a E zD e1];split
      . rw[show whL [mkP (b.extract E D)]=bl (b.extract E D) by simp[whL,mkP],y1L b 0 E D zD e3]
      . have:D=E:=by omega
        subst this;simp[whL]
     match n,hn with
     | 0,hn=>omega
     | n+1,hn=>exact y4q h b n D st2 _ st' l (by omega) (by omega) H5 he
  . rw[y0u (bl b) a (by omega)]at he
    cases he;have:a=b.size:=by omega
    rw[hw,this,y26]
def tiN:ByteArray:=⟨#[116,105,116,108,101]⟩
def peN:ByteArray:=⟨#[112,101,114,102,111,114,109,101,114]⟩
def soN:ByteArray:=⟨#[115,111,110,103,119,114,105,116,101,114]⟩
def fiN:ByteArray:=⟨#[102,105,108,101]⟩
def valP(s n:ByteArray)(a b:Nat):List Pc:=
 let q:=(valT (s.extract a b)).2
 mkP (s.extract 0 (a+q))::txP n (valT (s.extract a b)).1::(if b-q<s.size then [mkP (s.extract (b-q) s.size)]else [])
def cueL(s:ByteArray):List Pc:=
 if wdI (bl s)=s.size then(if s.size=0 then []else [mkP s])
 else if wdJ (bl s)=s.size then [mkP s]
 else
  let a:=wdJ (bl s)+1
  if wdW (bl s)=remL then [mkP (s.extract 0 a),txP reN (s.extract a s.size)]
  else if wdW (bl s)=titL then valP s tiN a s.size
  else if wdW (bl s)=perL then valP s peN a s.size
  else if wdW (bl s)=sonL then valP s soN a s.size
  else if wdW (bl s)=filL then(match y62 ((bl s).drop a)with|some k=>valP s fiN a (a+k)|none=>[])
  else [mkP s]
def cueS(_:Unit)(s:ByteArray):Option (Unit×List Pc):=if y3O (bl s)=true then some ((),cueL s)else none
theorem y89(x:ByteArray)(h:y0z (bl x)=true):(valT x).2*2<=x.size/\bl (valT x).1=bl (x.extract (valT x).2 (x.size-(valT x).2)):=by
 unfold valT;have hL:=zJ x;by_cases hc:(bl x).contains 34
 . rw[if_pos hc,if_pos h]
   unfold y0z at h;rw[if_pos hc]at h;simp only[Bool.and_eq_true,decide_eq_true_eq]at h;exact⟨by simp only;omega,rfl⟩
 . rw[if_neg hc]
   exact⟨by simp only;omega,by simp only[Nat.sub_zero];rw[y26]⟩
theorem y12(p:Pc)(l:List Pc):whL (p::l)=bl p.t++whL l:=rfl
theorem yIB(s:ByteArray)(a b c d:Nat)(h:a+d<=b):bl ((s.extract a b).extract c d)=bl (s.extract (a+c) (a+d)):=by
 rw[y1N,y1N,y1N,List.drop_take,List.drop_drop,List.take_take]
 congr 1
 omega
theorem y6m(s n:ByteArray)(a b:Nat)(H5:a<=b)(hb:b<=s.size)(h:y0z (bl (s.extract a b))=true):whL (valP s n a b)=bl s:=by
 obtain⟨h1,h2⟩:=y89 _ h;have hz:(s.extract a b).size=b-a:=by rw[zG];omega
 unfold valP;generalize (valT (s.extract a b)).2=q at *;generalize (valT (s.extract a b)).1=t at *;rw[hz]at h1 h2;have h3:bl t=bl (s.extract (a+q) (b-q)):=by rw[h2,yIB _ _ _ _ _ (by omega)];congr 2;omega
 simp only;rw[y12,y12];show bl (s.extract 0 (a+q))++(bl t++_)=_;rw[h3,<-List.append_assoc,y1L s 0 (a+q) (b-q) zD (by omega)];split
 . show _++(bl (s.extract (b-q) s.size) ++ [])=_
   rw[List.append_nil,y1L s 0 (b-q) s.size zD (by omega),y26]
 . have:b-q=s.size:=by omega
   rw[this];show _ ++ []=_;rw[List.append_nil,y26]
theorem yHr(l:List UInt8)(k:Nat)(h:y62 l=some k):k<l.length:=yJt l l.length k h
theorem y4o(s:ByteArray):whL [mkP s]=bl s:=by simp[whL,mkP]
theorem yGE:Whole cueS:=by
 intro st s st' ps h;unfold cueS at h;by_cases H5:y3O (bl s)=true
 . rw[if_pos H5]at h
   cases h;have hL:=zJ s;unfold cueL;unfold y3O at H5;by_cases h1:wdI (bl s)=s.size
   . rw[if_pos h1]
     split
     . rename_i h0
       exact(List.eq_nil_of_length_eq_zero (by omega)).symm
     . exact y4o s
   . rw[if_neg h1]
     rw[hL,if_neg h1]at H5;by_cases h2:wdJ (bl s)=s.size
     . rw[if_pos h2];exact y4o s
     . rw[if_neg h2]
       rw[if_neg h2]at H5;split at H5
       . cases H5
       . have hj:=y4p (bl s)
         have ha:wdJ (bl s)+1<=s.size:=by omega
         have hd:(bl s).drop (wdJ (bl s)+1)=bl (s.extract (wdJ (bl s)+1) s.size):=by
          rw[y1N,List.take_of_length_le (by rw[List.length_drop];omega)]
         generalize wdJ (bl s)+1=a at *;simp only;unfold y3y at H5;split
         . show bl (s.extract 0 a)++(bl (s.extract a s.size) ++ [])=_;rw[List.append_nil]
           exact(y1L s 0 a s.size zD ha).trans (y26 s)
         . rename_i n1
           rw[if_neg n1]at H5;split
           . rename_i y;rw[if_pos (.inl y),hd]at H5;exact y6m s _ a s.size ha zA H5
           . rename_i n2
             split
             . rename_i y;rw[if_pos (.inr (.inl y)),hd]at H5;exact y6m s _ a s.size ha zA H5
             . rename_i n3
               split
               . rename_i y;rw[if_pos (.inr (.inr y)),hd]at H5;exact y6m s _ a s.size ha zA H5
               . rename_i n4
                 rw[if_neg (by rintro(y|y|y)<;>contradiction)]at H5;split
                 . rename_i y
                   rw[if_pos y]at H5;cases hk:y62 ((bl s).drop a)with
                   | none=>rw[hk]at H5;cases H5
                   | some k=>
                    rw[hk]at H5;simp only[Bool.and_eq_true]at H5;have H6:=yHr _ _ hk;rw[List.length_drop]at H6;refine y6m s _ a (a+k) (Nat.le_add_right _ _) (by omega) ?_;rw[y1N,Nat.add_sub_cancel_left];exact H5.2
                 . exact y4o s
 . rw[if_neg H5]at h;cases h
theorem y1o(s:ByteArray)(a:Nat):bl (s.extract a s.size)=(bl s).drop a:=by
 rw[y1N,List.take_of_length_le (by rw[List.length_drop,zJ];omega)]
def timesL(l:List UInt8):Bool:=decide (29<=l.length)&&zW (l.take 29) timL&&(decide (l.length=29) || l[29]?==some 32)
def srtS(st:Nat)(s:ByteArray):Option (Nat×List Pc):=
 if st=1 then(if timesL (bl s)=true then some (2,[mkP s])else none)
 else if s.size=0 then some (0,[])
 else if st=2 then some (2,[txP teN s])
 else if dgsL (bl s)=true then some (1,[mkP s])else none
theorem yDw:Whole srtS:=by
 intro st s st' ps h;unfold srtS at h;split at h
 . split at h<;>cases h
   exact y4o s
 . split at h
   . rename_i h0
     cases h;exact(List.eq_nil_of_length_eq_zero (by rw[zJ];exact h0)).symm
   . split at h
     . cases h;simp[whL,txP]
     . split at h<;>cases h
       exact y4o s
def evN:List UInt8:=[91,69,118,101,110,116,115,93]
def foN:List UInt8:=[70,111,114,109,97,116]
def staN:List UInt8:=[83,116,97,114,116]
def endN:List UInt8:=[69,110,100]
def mo1:List UInt8:=[48,58,48,48,58,48,48,46,48,48]
def coB:ByteArray:=⟨#[44]⟩
structure Sc where
 ev:Bool
 fs:Option (List ByteArray)
def secL(l:List UInt8):Bool:=decide (2<l.length)&&(l.head?==some 91)&&((l.takeWhile fun c=>!(c==93)).length==l.length-1)
def keB(c:UInt8):Bool:=cpB c || (decide (97<=c.toNat)&&decide (c.toNat<=122)) || c==32
def keN(l:List UInt8):Nat:=let n:=(l.takeWhile keB).length;if l.head?≠some 32/\l[n]?=some 58/\l[n+1]?=some 32 then n else 0
def trB(s:ByteArray):ByteArray:=⟨(Lib.trimB (bl s) 32).toArray⟩
def evG:Bool->List ByteArray->List ByteArray->Option (List Pc)
 | b,f::fs,p::ps=>match(if bl f=staN\/bl f=endN then(if zW (bl p) mo1=true then some (mkP p)else none)else some (txP f p)),evG true fs ps with
  | some x,some l=>some ((if b then [mkP coB]else [])++x::l)
  | _,_=>none
 | _,[],[]=>some []
 | _,_,_=>none
def cutN(v:ByteArray)(n:Nat):List ByteArray:=Lib.splitB coB 0 (min n (v.size+1)-1) v
def evP(fs:Option (List ByteArray))(h v:ByteArray):Option (List Pc):=match fs with
 | none=>none
 | some F=>match evG false F (cutN v F.length)with
  | some l=>some (mkP h::l)
  | none=>none
def ssaS(c:Sc)(s:ByteArray):Option (Sc×List Pc):=match bl s with
 | []=>some (c,[])
 | x::_=>
  if x=59\/x=33 then some (c,[mkP (s.extract 0 1),txP reN (s.extract 1 s.size)])
  else if secL (bl s)=true then some (⟨bl s==evN,none⟩,[mkP s])
  else
   let n:=keN (bl s)
   if n=0 then none
   else if bl (s.extract 0 n)=foN then some (⟨c.ev,some ((Lib.splitB coB 0 (Lib.countB (s.extract (n+2) s.size) coB) (s.extract (n+2) s.size)).map trB)⟩,[mkP s])
   else if c.ev=true then(match evP c.fs (s.extract 0 (n+2)) (s.extract (n+2) s.size)with|some l=>some (c,l)|none=>none)
   else some (c,[mkP (s.extract 0 (n+2)),txP (s.extract 0 n) (s.extract (n+2) s.size)])
def yAE(b:Bool):List (List UInt8)->List UInt8
 | []=>[]
 | x::r=>(if b then [44]else [])++x++yAE true r
theorem y6U(b:Bool)(x:List UInt8)(r:List (List UInt8)):yAE b (x::r)=(if b then [44]else [])++x++yAE true r:=rfl
theorem yBp:∀(b:Bool) (F P:List ByteArray) (l:List Pc),evG b F P=some l->whL l=yAE b (P.map bl)
 | b,[],[],l,h=>by simp[evG]at h;subst h;rfl
 | b,[],p::ps,l,h=>by simp[evG]at h
 | b,f::fs,[],l,h=>by simp[evG]at h
 | b,f::fs,p::ps,l,h=>by
  unfold evG at h;split at h
  . rename_i x r hx hr
    cases h;have ih:=yBp true fs ps r hr;have H5:x.t=p:=by
     split at hx
     . split at hx<;>cases hx
       rfl
     . cases hx;rfl
    rw[y6n,y12,ih,H5,List.map_cons,y6U];cases b<;>simp[whL,mkP,coB,bl]
  . cases h
theorem y0Z(s:ByteArray):Lib.indexB s coB = -1\/∃i:Nat,Lib.indexB s coB=i/\i<s.size/\(bl s)[i]?=some 44:=by
 rcases Lib.indexB_cases s coB with h|⟨i,h,hr⟩
 . exact .inl h
 . have hz:coB.size=1:=rfl
   refine .inr ⟨i,h,by omega,?_⟩;have e:Lib.indexB s coB=Lib.indexByte (bl s) 44:=Lib.index_one (bl s) 44;rw[e]at h;exact(Lib.indexByte_some h).1
theorem y4x:∀(k:Nat) (s:ByteArray) (b:Bool),yAE b ((Lib.splitB coB 0 k s).map bl)=(if b then [44]else [])++bl s
 | 0,s,b=>by simp[Lib.splitB_zero,yAE]
 | k+1,s,b=>by
  rcases y0Z s with h|⟨i,h,hi,hx⟩
  . rw[Lib.splitB_miss _ _ _ _ h];simp[yAE]
  . rw[Lib.splitB_hit _ _ _ _ i h,List.map_cons,y6U,y4x k _ true,List.append_assoc]
    congr 1
    have e:(44:UInt8)::bl (s.extract (i+1) s.size)=bl (s.extract i s.size):=by rw[y1o,y1o,y0h _ _ _ hx]
    show bl (s.extract 0 (i+0))++([44]++bl (s.extract (i+coB.size) s.size))=bl s;rw[show coB.size=1 from rfl,Nat.add_zero,List.singleton_append,e,y1L s 0 i s.size zD (by omega),y26]
theorem yBd(l:List UInt8)(h:keN l≠0):keN l+2<=l.length:=by
 unfold keN at *;simp only at *;split at h
 . rename_i hh
   rw[if_pos hh];have:=(List.getElem?_eq_some_iff.1 hh.2.2).1;omega
 . exact absurd rfl h
theorem yDu:Whole ssaS:=by
 intro st s st' ps h;unfold ssaS at h;have hL:=zJ s;split at h
 . rename_i h0;cases h;rw[h0];rfl
 . rename_i x r h0
   have H5:1<=s.size:=by rw[<-hL,h0];simp
   have two:∀(n:ByteArray) (k:Nat),k<=s.size->whL [mkP (s.extract 0 k),txP n (s.extract k s.size)]=bl s:=by
    intro n k hk;show bl (s.extract 0 k)++(bl (s.extract k s.size) ++ [])=_;rw[List.append_nil,y1L s 0 k s.size zD hk,y26]
   split at h
   . cases h;exact two _ 1 H5
   . split at h
     . cases h;exact y4o s
     . simp only at h
       split at h
       . cases h
       . rename_i hn
         have hk:=yBd _ hn;rw[hL]at hk;split at h
         . cases h;exact y4o s
         . split at h
           . split at h
             . rename_i l hl
               cases h;unfold evP at hl;split at hl
               . cases hl
               . split at hl
                 . rename_i F l2 H6
                   cases hl;rw[y12,yBp _ _ _ _ H6];unfold cutN;rw[y4x];show bl (s.extract 0 (keN (bl s)+2))++([]++bl (s.extract (keN (bl s)+2) s.size))=_;rw[List.nil_append,y1L s 0 _ s.size zD hk,y26]
                 . cases hl
             . cases h
           . cases h;exact two _ _ hk
def mi1:List UInt8:=[48,48,58,48,48]
def mi2:List UInt8:=[48,48,58,48,48,46,48,48]
def mi3:List UInt8:=[48,48,58,48,48,46,48,48,48]
def momB(l:List UInt8):Bool:=zW l mi1 || zW l mi2 || zW l mi3
def momN(l:List UInt8):Nat:=
 let k:=((l.take 11).takeWhile fun c=>!(c==93)).length
 if l.head?=some 91/\k<(l.take 11).length/\momB ((l.take k).drop 1)=true then k+1 else 0
theorem yA3(l:List UInt8):momN l<=l.length:=by
 unfold momN;simp only;split
 . rename_i h
   have:=h.2.1;rw[List.length_take]at this;omega
 . exact zD
def zm:Nat->ByteArray->Nat->List Pc×Nat
 | 0,_,a=>([],a)
 | n+1,s,a=>if momN ((bl s).drop a)=0 then([],a)else
  let r:=zm n s (a+momN ((bl s).drop a))
  (mkP (s.extract a (a+momN ((bl s).drop a)))::r.1,r.2)
def noE(l:List UInt8):Nat:=1+((l.drop 1).takeWhile fun c=>decide (97<=c.toNat)&&decide (c.toNat<=122)).length
def noteOk(l:List UInt8):Bool:=(l.head?==some 91)&&((l.takeWhile fun c=>!(c==93)).length+1==l.length)&&decide (1<noE l)&&(l[noE l]?==some 58)
def notP(s:ByteArray):List Pc:=let n:=noE (bl s);[mkP (s.extract 0 (n+1)),txP (s.extract 1 n) (s.extract (n+1) (s.size-1)),mkP ⟨#[93]⟩]
def lrcS(_:Unit)(s:ByteArray):Option (Unit×List Pc):=
 if s.size=0 then some ((),[])
 else
  let r:=zm s.size s 0
  if r.2=0 then(if noteOk (bl s)=true then some ((),notP s)else none)
  else some ((),r.1++(if r.2<s.size then [txP teN (s.extract r.2 s.size)]else []))
theorem y6t:∀(n:Nat) (s:ByteArray) (a:Nat),a<=s.size->a<=(zm n s a).2/\(zm n s a).2<=s.size/\whL (zm n s a).1=bl (s.extract a (zm n s a).2)
 | 0,s,a,h=>⟨zA,h,(yFq s a).symm⟩
 | n+1,s,a,h=>by
  unfold zm;split
  . exact⟨zA,h,(yFq s a).symm⟩
  . have hm:=yA3 ((bl s).drop a)
    rw[List.length_drop,zJ]at hm;obtain⟨h1,h2,h3⟩:=y6t n s (a+momN ((bl s).drop a)) (by omega);refine⟨by simp only;omega,h2,?_⟩;simp only;rw[y12,h3];exact y1L s a _ _ (Nat.le_add_right _ _) h1
theorem yFC:Whole lrcS:=by
 intro st s st' ps h;unfold lrcS at h;have hL:=zJ s;split at h
 . rename_i h0;cases h;exact(List.eq_nil_of_length_eq_zero (by omega)).symm
 . simp only at h
   obtain⟨h1,h2,h3⟩:=y6t s.size s 0 zD;split at h
   . split at h
     . rename_i hn
       cases h;unfold noteOk at hn;simp only[Bool.and_eq_true,beq_iff_eq,decide_eq_true_eq]at hn;obtain⟨⟨⟨n1,n2⟩,n3⟩,n4⟩:=hn;have H7:=(List.getElem?_eq_some_iff.1 n4).1;have H5:∃c,(bl s)[s.size-1]?=some c/\c=93:=by
        have H6:s.size-1<(bl s).length:=by omega
        refine⟨(bl s)[s.size-1],List.getElem?_eq_getElem H6,?_⟩;have:=y0T (fun c=>!(c==93)) (bl s) ((bl s)[s.size-1]) (by rw[show((bl s).takeWhile fun c=>!(c==93)).length=s.size-1 by omega];exact List.getElem?_eq_getElem H6);simpa using this
       obtain⟨c,hc,rfl⟩:=H5;have hq:noE (bl s)≠s.size-1:=by intro e;rw[e,hc]at n4;cases n4
       unfold notP;simp only;generalize noE (bl s)=n at *;rw[y12,y12,y12];show bl (s.extract 0 (n+1))++(bl (s.extract (n+1) (s.size-1))++([93] ++ []))=_;have e:([93] ++ []:List UInt8)=bl (s.extract (s.size-1) s.size):=by
        rw[y1o,y0h _ _ _ hc];rw[List.drop_eq_nil_of_le (by omega)];rfl
       rw[e,y1L s (n+1) _ _ (by omega) (by omega),y1L s 0 _ _ zD (by omega),y26]
     . cases h
   . cases h
     rw[y6n,h3];split
     . show bl (s.extract 0 (zm s.size s 0).2)++(bl (s.extract (zm s.size s 0).2 s.size) ++ [])=_
       rw[List.append_nil,y1L s 0 _ _ zD h2,y26]
     . have e:(zm s.size s 0).2=s.size:=by omega
       rw[e];show bl (s.extract 0 s.size) ++ []=_;rw[List.append_nil,y26]
theorem ixB(l:List UInt8)(c:UInt8):Lib.indexByte l c=if l.contains c then(((l.takeWhile fun x=>!(x==c)).length:Nat):Int)else -1:=by
 induction l with
 | nil=>rfl
 | cons b l ih=>
  rw[Lib.indexByte,List.contains_cons,List.takeWhile_cons];by_cases h:b=c
  . subst h;simp
  . have h1:(b==c)=false:=by simpa using h
    have h2:(c==b)=false:=by simpa using fun e=>h e.symm
    rw[h1,h2,Bool.false_or,ih];by_cases hc:l.contains c
    . rw[if_pos hc,if_pos hc]
      have:((((l.takeWhile fun x=>!(x==c)).length:Nat):Int) == -1)=false:=by rw[Y2];omega
      simp[this]
    . rw[if_neg hc,if_neg hc];rfl
theorem y4s(p:UInt8->Bool)(l:List UInt8)(h:l.all p=true):l.takeWhile p=l:=by
 induction l with
 | nil=>rfl
 | cons c l ih=>simp only[List.all_cons,Bool.and_eq_true]at h;rw[List.takeWhile_cons,h.1];simp[ih h.2]
theorem sec_ix(l:List UInt8):(decide (2<l.length)&&(l.head?==some 91)&&decide (Lib.indexByte l 93=(l.length:Int)-1))=secL l:=by
 unfold secL
 congr 1
 rw[ixB,Bool.eq_iff_iff,decide_eq_true_iff,beq_iff_eq];by_cases hc:l.contains 93
 . rw[if_pos hc]
   have h0:l ≠ []:=by rintro rfl;simp at hc
   have:0<l.length:=List.length_pos_iff.2 h0;omega
 . rw[if_neg hc]
   have ha:l.all (fun c=>!(c==93))=true:=by
    rw[List.all_eq_true];intro x hx;have:x≠93:=by rintro rfl;exact hc (List.contains_iff_mem.2 hx)
    simpa using this
   rw[y4s _ _ ha];cases l with
   | nil=>simp
   | cons x l=>simp
theorem yFR(l:List UInt8)(n:Nat)(hn:n<=l.length)(ha:(l.take n).all keB=true)(h0:0<n->l.head?≠some 32)(hs:∀c,l[n]?=some c->keB c=false\/(c=32/\n=0)):
 keN l=if l[n]?=some 58/\l[n+1]?=some 32 then n else 0:=by
 unfold keN;simp only;by_cases H5:l.head?=some 32
 . rw[if_neg (fun h=>h.1 H5)]
   have H6:n=0:=by
    cases n with
    | zero=>rfl
    | succ n=>exact absurd H5 (h0 (by omega))
   subst H6;have:l[0]?=some 32:=by rw[<-List.head?_eq_getElem?];exact H5
   rw[if_neg (fun h=>by rw[this]at h;cases h.1)]
 . have ht:(l.takeWhile keB).length=n:=by
    refine y1k keB l n ha hn (fun c hc=>?_);rcases hs c hc with h|⟨h,h'⟩
    . exact h
    . subst h;subst h'
      rw[<-List.head?_eq_getElem?]at hc;exact absurd hc H5
   rw[ht];by_cases hk:l[n]?=some 58/\l[n+1]?=some 32
   . rw[if_pos ⟨H5,hk⟩,if_pos hk]
   . rw[if_neg (fun h=>hk h.2),if_neg hk]
theorem keN_ix(l:List UInt8):(∀n:Nat,Lib.indexByte l 58=n->keN l=if 1<=n/\l.head?≠some 32/\l[n+1]?=some 32/\(l.take n).all keB=true then n else 0)/\(Lib.indexByte l 58 = -1->keN l=0):=by
 refine⟨fun n h=>?_,fun h=>?_⟩
 . obtain⟨h1,h2⟩:=Lib.indexByte_some h
   have H7:=(List.getElem?_eq_some_iff.1 h1).1;by_cases hc:1<=n/\l.head?≠some 32/\l[n+1]?=some 32/\(l.take n).all keB=true
   . rw[if_pos hc,yFR l n (by omega) hc.2.2.2 (fun _=>hc.2.1) (fun c hx=>by rw[h1]at hx;cases hx;exact .inl (by decide)),if_pos ⟨h1,hc.2.2.1⟩]
   . rw[if_neg hc]
     unfold keN;simp only;split
     . rename_i hh
       have ht:(l.takeWhile keB).length=n:=by
        rcases Nat.lt_trichotomy (l.takeWhile keB).length n with hl|hl|hl
        . exact absurd hh.2.1 (h2 _ hl)
        . exact hl
        . obtain⟨c,H5,H6⟩:=y32 keB l n hl
          rw[h1]at H5;cases H5;exact absurd H6 (by decide)
       rw[ht];rw[ht]at hh;have ha:(l.take n).all keB=true:=by
        rw[<-ht,<-List.prefix_iff_eq_take.1 (List.takeWhile_prefix keB)];exact List.all_takeWhile
       by_cases hn:n=0
       . exact hn
       . exact absurd ⟨by omega,hh.1,hh.2.2,ha⟩ hc
     . rfl
 . unfold keN
   simp only;rw[if_neg (fun hh=>Lib.indexByte_none h _ hh.2.1)]
theorem yHv(s:ByteArray)(a:Nat)(h:∀k c,a<=k->(bl s)[k]?=some c->c≠44):Lib.indexB (s.extract a s.size) coB = -1:=by
 rcases y0Z (s.extract a s.size)with e|⟨i,_,_,h2⟩
 . exact e
 . rw[y1o,List.getElem?_drop]at h2
   exact absurd rfl (h _ _ (Nat.le_add_right _ _) h2)
theorem ixC_at(s:ByteArray)(a i:Nat)(H6:a<=i)(hx:(bl s)[i]?=some 44)(h:∀k c,a<=k->k<i->(bl s)[k]?=some c->c≠44):Lib.indexB (s.extract a s.size) coB=((i-a:Nat):Int):=by
 have e:Lib.indexB (s.extract a s.size) coB=Lib.indexByte (bl (s.extract a s.size)) 44:=Lib.index_one (bl (s.extract a s.size)) 44;have h0:(bl (s.extract a s.size))[i-a]?=some 44:=by rw[y1o,List.getElem?_drop,show a+(i-a)=i by omega];exact hx
 rw[e];rcases Int.lt_trichotomy (Lib.indexByte (bl (s.extract a s.size)) 44) 0 with hl|hl|hl
 all_goals
  have H5:=Lib.indexByte_ge (bl (s.extract a s.size)) 44
 . exact absurd h0 (Lib.indexByte_none (by omega) _)
 all_goals
  obtain⟨o,ho⟩:∃o:Nat,Lib.indexByte (bl (s.extract a s.size)) 44=o:=⟨(Lib.indexByte (bl (s.extract a s.size)) 44).toNat,by omega⟩;obtain⟨h1,h2⟩:=Lib.indexByte_some ho;rw[ho];rcases Nat.lt_trichotomy o (i-a)with hq|hq|hq
  . rw[y1o,List.getElem?_drop]at h1
    exact absurd rfl (h (a+o) 44 (by omega) (by omega) h1)
  . rw[hq]
  . exact absurd h0 (h2 _ hq)
theorem y36:∀(n k:Nat) (s:ByteArray),s.size<=n->Lib.countB s coB<=k->Lib.splitB coB 0 k s=Lib.splitB coB 0 (Lib.countB s coB) s
 | n,k,s,hn,hk=>by
  rcases y0Z s with h|⟨i,h,hi,_⟩
  . rw[Lib.splitB_miss _ _ _ _ h,Lib.splitB_miss _ _ _ _ h]
  . have hc:=Lib.countB_hit s coB i (by decide) h
    obtain⟨k,rfl⟩:∃k',k=k'+1:=⟨k-1,by omega⟩;have e2:(s.extract (i+coB.size) s.size).size=s.size-(i+1):=by rw[show coB.size=1 from rfl,zG];omega
    rw[Lib.splitB_hit _ _ _ _ i h,hc,Nat.add_comm 1,Lib.splitB_hit _ _ _ _ i h]
    match n,hn with
    | 0,hn=>omega
    | n+1,hn=>rw[y36 n k _ (by omega) (by omega)]
theorem y0k(s:ByteArray):Lib.countB s coB<=s.size:=Lib.countB_le coB (by decide) s.size s zA
theorem yAW(v:ByteArray)(n:Nat):cutN v n=Lib.splitB coB 0 (n-1) v:=by
 unfold cutN;have hc:=y0k v;by_cases h:n<=v.size+1
 . rw[Nat.min_eq_left h]
 . rw[Nat.min_eq_right (by omega),Nat.add_sub_cancel,y36 v.size v.size v zA hc,y36 v.size (n-1) v zA (by omega)]
theorem yIK(s:ByteArray)(k a i:Nat)(H5:a<=i)(hi:i<s.size)(hx:(bl s)[i]?=some 44)(h:∀j c,a<=j->j<i->(bl s)[j]?=some c->c≠44):Lib.splitB coB 0 (k+1) (s.extract a s.size)=s.extract a i::Lib.splitB coB 0 k (s.extract (i+1) s.size):=by
 rw[Lib.splitB_hit _ _ _ _ (i-a) (ixC_at s a i H5 hx h)];have e1:(s.extract a s.size).extract 0 (i-a+0)=s.extract a i:=by
  apply ByteArray.ext;apply Array.ext';have:=yIB s a s.size 0 (i-a) (by omega);rw[Nat.add_zero]at this ⊢;rw[show a+(i-a)=i by omega]at this;exact this
 have e2:(s.extract a s.size).extract (i-a+coB.size) (s.extract a s.size).size=s.extract (i+1) s.size:=by
  apply ByteArray.ext;apply Array.ext';have hz:(s.extract a s.size).size=s.size-a:=by rw[zG];omega
  have:=yIB s a s.size (i-a+1) (s.size-a) (by omega);rw[show a+(s.size-a)=s.size by omega,show a+(i-a+1)=i+1 by omega]at this;rw[hz];exact this
 rw[e1,e2]
theorem yDg(l:List UInt8)(c:UInt8):Lib.trimB l c=Lib.trimRightB (Lib.trimLeftB l c) c:=by
 unfold Lib.trimB Lib.trimLeftB Lib.trimRightB
 induction l with
 | nil=>rfl
 | cons b l ih=>
  by_cases hb:b=c
  . subst hb
    rw[List.dropWhile_cons_of_pos (p:=fun x=>x==b) (a:=b) (by simp),<-ih,List.reverse_cons,List.dropWhile_append];split
    . rename_i h
      rw[List.isEmpty_iff]at h;rw[h];simp
    . rw[List.reverse_append,List.reverse_singleton,List.singleton_append,List.dropWhile_cons_of_pos (p:=fun x=>x==b) (a:=b) (by simp)]
  . have h1:¬(b==c)=true:=by simpa using hb
    rw[List.dropWhile_cons_of_neg (p:=fun x=>x==c) (a:=b) h1,List.reverse_cons,List.dropWhile_append];split
    . rename_i h
      rw[List.dropWhile_cons_of_neg (p:=fun x=>x==c) (a:=b) h1];simp[List.dropWhile_cons_of_neg (p:=fun x=>x==c) (a:=b) h1]
    . rw[List.reverse_append,List.reverse_singleton,List.singleton_append,List.dropWhile_cons_of_neg (p:=fun x=>x==c) (a:=b) h1]
theorem yBS{l:List UInt8}(h:momB l=true):l.length=5\/l.length=8\/l.length=9:=by
 unfold momB at h;rw[Bool.or_eq_true,Bool.or_eq_true]at h;rcases h with(h|h)|h
 . exact .inl (y0Y h)
 . exact .inr (.inl (y0Y h))
 . exact .inr (.inr (y0Y h))
theorem y4Z(c:UInt8):∀(l g:List UInt8),zW l g=true->dgB c=false->¬c∈g->¬c∈l
 | [],[],_,_,_,hm=>by cases hm
 | x::l,f::g,h,hd,hg,hm=>by
  simp only[zW,Bool.and_eq_true]at h;rcases List.mem_cons.1 hm with rfl|hm
  . have h1:=h.1
    split at h1
    . rw[hd]at h1;cases h1
    . rw[beq_iff_eq]at h1;exact hg (List.mem_cons.2 (.inl h1))
  . exact y4Z c l g h.2 hd (fun q=>hg (List.mem_cons_of_mem _ q)) hm
 | [],_::_,h,_,_,_=>by simp[zW]at h
 | _::_,[],h,_,_,_=>by simp[zW]at h
theorem yJd{l:List UInt8}(h:momB l=true):¬(93:UInt8)∈l:=by
 unfold momB at h;rw[Bool.or_eq_true,Bool.or_eq_true]at h;rcases h with(h|h)|h
 . exact y4Z 93 l mi1 h (by decide) (by decide)
 . exact y4Z 93 l mi2 h (by decide) (by decide)
 . exact y4Z 93 l mi3 h (by decide) (by decide)
def momA(l:List UInt8)(n:Nat):Bool:=decide (n<=l.length)&&(l.head?==some 91)&&(l[n-1]?==some 93)&&momB ((l.take (n-1)).drop 1)
theorem y4X(l:List UInt8)(n:Nat)(hn:7<=n):momA l n=true↔momN l=n:=by
 unfold momA;simp only[Bool.and_eq_true,decide_eq_true_eq,beq_iff_eq];constructor
 . rintro⟨⟨⟨h1,h2⟩,h3⟩,h4⟩
   have hl:=yBS h4;have H5:=yJd h4;rw[List.length_drop,List.length_take]at hl;have H6:n<=11:=by omega
   have ht:((l.take 11).takeWhile fun c=>!(c==93)).length=n-1:=by
    refine y1k _ _ _ ?_ (by rw[List.length_take];omega) (fun c hc=>?_)
    . rw[List.take_take,Nat.min_eq_left (by omega),List.all_eq_true]
      intro x hx;have h0:l.take (n-1)=91::(l.take (n-1)).drop 1:=by
       cases l with
       | nil=>cases h2
       | cons y l=>
        simp only[List.head?_cons,Option.some.injEq]at h2;subst h2;obtain⟨m,rfl⟩:∃m,n=m+2:=⟨n-2,by omega⟩;rfl
      rw[h0]at hx;rcases List.mem_cons.1 hx with rfl|hx
      . decide
      . have:x≠93:=by rintro rfl;exact H5 hx
        simpa using this
    . rw[List.getElem?_take_of_lt (by omega),h3]at hc;cases hc;decide
   unfold momN;simp only;rw[ht,if_pos ⟨h2,by rw[List.length_take];omega,h4⟩];omega
 . intro h
   unfold momN at h;simp only at h;split at h
   . rename_i hh
     obtain⟨h1,h2,h3⟩:=hh;rw[show n-1=((l.take 11).takeWhile fun c=>!(c==93)).length by omega];refine⟨⟨⟨by rw[List.length_take]at h2;omega,h1⟩,?_⟩,h3⟩;have hx:=List.getElem?_eq_getElem h2;have:=y0T (fun c=>!(c==93)) (l.take 11) _ hx;have e:(l.take 11)[((l.take 11).takeWhile fun c=>!(c==93)).length]=93:=by simpa using this
     rw[e,List.getElem?_take_of_lt (by rw[List.length_take]at h2;omega)]at hx;exact hx
   . omega
theorem yFB(l:List UInt8):momN l=0\/momN l=7\/momN l=10\/momN l=11:=by
 unfold momN;simp only;split
 . rename_i h
   have hl:=yBS h.2.2;have h2:=h.2.1;rw[List.length_take]at h2;rw[List.length_drop,List.length_take]at hl;omega
 . exact .inl rfl
theorem y2c(x:UInt8)(n:Nat)(hn:n<256)(h:x≠UInt8.ofNat n):¬(x.toNat:Int)=(n:Int):=by
 intro e;apply h;apply UInt8.toNat_inj.1;rw[UInt8.toNat_ofNat'];omega
theorem yBQ(b:ByteArray)(a:Nat)(w:World)(hs:b.size<=1000000)(ha:a<=b.size):Calls prog 310 #[.string b,.int .i64 (a:Int)] w fun e w'=>
 e=.returned (.agg #[.string (b.extract a (nxE (bl b) a)),.string (b.extract (nxE (bl b) a) (nxB (bl b) (nxE (bl b) a))),.int .i64 (a:Int)])/\Below w.heap.size w w':=by
 have HL:Hid ((bl b).length=b.size):=zJ b;obtain⟨E,hE⟩:∃E,E=nxE (bl b) a:=⟨_,rfl⟩;obtain⟨B,hB⟩:∃B,B=nxB (bl b) E:=⟨_,rfl⟩;rw[<-hE,<-hB];have e1:a<=E:=by rw[hE];exact y20 _ _
 have e2:E<=b.size:=by rw[hE,<-HL.out];exact y2g _ _ (by rw[HL.out];exact ha)
 obtain⟨W,hW⟩:∃W,W=w.alloc (.cells #[.string ⟨#[]⟩,.string ⟨#[]⟩,.int .i64 0] 262):=⟨_,rfl⟩;have Hb:Below w.heap.size w W:=by rw[hW];exact bal z8 _
 have m0:Live (w.alloc (.cells #[.string ⟨#[]⟩,.string ⟨#[]⟩,.int .i64 0] 262)) w.heap.size 0 (.string ⟨#[]⟩):=Live.fresh w #[.string ⟨#[]⟩,.string ⟨#[]⟩,.int .i64 0] 262 0 _ rfl;have m1:Live (w.alloc (.cells #[.string ⟨#[]⟩,.string ⟨#[]⟩,.int .i64 0] 262)) w.heap.size 1 (.string ⟨#[]⟩):=Live.fresh w #[.string ⟨#[]⟩,.string ⟨#[]⟩,.int .i64 0] 262 1 _ rfl;have m2:Live (w.alloc (.cells #[.string ⟨#[]⟩,.string ⟨#[]⟩,.int .i64 0] 262)) w.heap.size 2 (.int .i64 0):=Live.fresh w #[.string ⟨#[]⟩,.string ⟨#[]⟩,.int .i64 0] 262 2 _ rfl;rw[<-hW]at m0 m1 m2;have HE:=z7 hE;have HB:=z7 hB;have H8:=z7 Hb;have M0:=z7 m0;have M1:=z7 m1;have M2:=z7 m2;clear hE hB Hb m0 m1 m2
 go_enter func310,ntmps310
 go_wp2_with fail
 rw[<-hW];clear hW
 go_loopw [5] (fun i wr=>∃k:Nat,i=.int .i64 (k:Int)/\a<=k/\k<=E/\Hid (nxE (bl b) k=E)/\wr=W) (fun i _=>b.size-(intOf i).toNat)
 case atStart=>exact⟨a,rfl,zA,e1,z7 HE.out.symm,rfl⟩
 case round=>
  obtain⟨k,rfl,Hi,Hh,hR,rfl⟩:=hrel;by_cases H7:k<b.size
  . obtain⟨x,hx⟩:=zM (bl b) k (by rw[HL.out];exact H7)
    have X:∀h,b[k]'h=x:=zS b k x hx;have Hg:=x.toNat_lt;have HX:=z7 hx;clear hx;cases hc:eolB x with
    | false=>
     have hn:=yBP (bl b) k x HX.out hc;rw[hR.out]at hn;have Hc:k+1<=E:=by rw[hn];exact y20 _ _
     have g1:¬(x.toNat:Int)=10:=y2c x 10 (by decide) (by intro h;subst h;cases hc);have g2:¬(x.toNat:Int)=13:=y2c x 13 (by decide) (by intro h;subst h;cases hc);have g3:((x.toNat:Int) != 10)=true:=by simpa using g1
     have g4:((x.toNat:Int) != 13)=true:=by simpa using g2
     have E2:=z7 hn.symm;clear hn hc g1 g2;go_wp2;go_roundw
     case rel=>exact⟨k+1,by first|omega|go_num,by omega,Hc,E2,trivial⟩
     case measure=>simp[intOf];omega
    | true=>
     have H9:E=k:=by rw[<-hR.out,yBO (bl b) k x HX.out hc]
     subst H9;have g:x=10\/x=13:=by simpa[eolB]using hc
     clear hc;rcases g with rfl|rfl
     . have H6:B=E+1:=by
        rw[HB.out];unfold nxB;rw[if_pos (by rw[HL.out];exact H7),if_neg (by rw[HX.out];intro h;cases h.1)]
       subst H6;have i1:((E:Int)+1).toNat=E+1:=by omega
       go_wp2
       obtain⟨q0,q0'⟩:=M0.out;obtain⟨q1,q1'⟩:=M1.out;obtain⟨q2,q2'⟩:=M2.out
       go_region
       go_wp2_with fail
       refine bodyPost_ret (v:=.agg #[.string (b.extract a E),.string (b.extract E (E+1)),.int .i64 (a:Int)]) (by simp[results,results310,go_sem,q0,q1,q2,q0',q1',q2']) rfl ?_;exact⟨rfl,(((H8.out.setCell (by simp) _).setCell (by simp) _).setCell (by simp) _).drew⟩
     . have i1:((E:Int)+1).toNat=E+1:=by omega
       have i2:((E:Int)+1+1).toNat=E+2:=by omega
       by_cases h2:E+1<b.size
       . obtain⟨y,hy⟩:=zM (bl b) (E+1) (by rw[HL.out];exact h2)
         have Y:∀h,b[E+1]'h=y:=zS b (E+1) y hy;have Hf:=y.toNat_lt;have Hd:(E:Int)+1<(b.size:Int):=by omega
         by_cases H5:y=10
         . subst H5
           have H6:B=E+2:=by
            rw[HB.out];unfold nxB;rw[if_pos (by rw[HL.out];exact H7),if_pos ⟨HX.out,hy⟩]
           subst H6;clear hy;go_wp2
           obtain⟨q0,q0'⟩:=M0.out;obtain⟨q1,q1'⟩:=M1.out;obtain⟨q2,q2'⟩:=M2.out
           go_region
           go_wp2_with fail
           refine bodyPost_ret (v:=.agg #[.string (b.extract a E),.string (b.extract E (E+2)),.int .i64 (a:Int)]) (by simp[results,results310,go_sem,q0,q1,q2,q0',q1',q2']) rfl ?_;exact⟨rfl,(((H8.out.setCell (by simp) _).setCell (by simp) _).setCell (by simp) _).drew⟩
         . have H6:B=E+1:=by
            rw[HB.out];unfold nxB;rw[if_pos (by rw[HL.out];exact H7),if_neg (by rw[hy];intro h;exact H5 (zF h.2))]
           subst H6;have g3:((y.toNat:Int)==10)=false:=by rw[Y2];exact y2c y 10 (by decide) H5
           clear hy H5;go_wp2
           obtain⟨q0,q0'⟩:=M0.out;obtain⟨q1,q1'⟩:=M1.out;obtain⟨q2,q2'⟩:=M2.out
           go_region
           go_wp2_with fail
           refine bodyPost_ret (v:=.agg #[.string (b.extract a E),.string (b.extract E (E+1)),.int .i64 (a:Int)]) (by simp[results,results310,go_sem,q0,q1,q2,q0',q1',q2']) rfl ?_;exact⟨rfl,(((H8.out.setCell (by simp) _).setCell (by simp) _).setCell (by simp) _).drew⟩
       . have H6:B=E+1:=by
          rw[HB.out];unfold nxB;rw[if_pos (by rw[HL.out];exact H7),if_neg (by rw[List.getElem?_eq_none (by rw[HL.out];omega:(bl b).length<=E+1)];intro h;cases h.2)]
         subst H6;have Hd:¬(E:Int)+1<(b.size:Int):=by omega
         go_wp2
         obtain⟨q0,q0'⟩:=M0.out;obtain⟨q1,q1'⟩:=M1.out;obtain⟨q2,q2'⟩:=M2.out
         go_region
         go_wp2_with fail
         refine bodyPost_ret (v:=.agg #[.string (b.extract a E),.string (b.extract E (E+1)),.int .i64 (a:Int)]) (by simp[results,results310,go_sem,q0,q1,q2,q0',q1',q2']) rfl ?_;exact⟨rfl,(((H8.out.setCell (by simp) _).setCell (by simp) _).setCell (by simp) _).drew⟩
  . have H9:E=k:=by omega
    subst H9;have H6:B=E:=by rw[HB.out];unfold nxB;rw[if_neg (by rw[HL.out];exact H7)]
    subst H6;have Ha:b.extract B B=ByteArray.empty:=by simp
    have He:=z7 Ha;clear Ha;go_wp2
    obtain⟨q0,q0'⟩:=M0.out;obtain⟨q1,q1'⟩:=M1.out;obtain⟨q2,q2'⟩:=M2.out
    go_region
    go_wp2_with fail
    refine bodyPost_ret (v:=.agg #[.string (b.extract a B),.string ByteArray.empty,.int .i64 (a:Int)]) (by simp[results,results310,go_sem,q0,q1,q2,q0',q1',q2']) rfl ?_;exact⟨by rw[He.out],(((H8.out.setCell (by simp) _).setCell (by simp) _).setCell (by simp) _).drew⟩
