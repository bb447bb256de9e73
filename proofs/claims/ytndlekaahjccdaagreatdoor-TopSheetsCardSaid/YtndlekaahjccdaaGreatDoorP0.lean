/- P0 -/
import Derived.Lib.Hide
import Derived.Lib.BufferRead
import Derived.WalkSmall
import Derived.Lib.TrailingZeros
import Derived.ProofKit
import Derived.OpenShut
import Derived.LaidMore
import Derived.Lay
import Derived.Lib.LaidU8T
import Derived.Shelf.Vars
import Derived.Stop.Joined
import Derived.Test.YtndlekaahjccdaaGreatDoorRows
import Derived.Shelf.Unicode.ValidAny
set_option linter.all false
set_option maxRecDepth 100000
set_option maxHeartbeats 40000000
namespace Go.Proofs.YtndlekaahjccdaaGreatDoor
section
open Go.RowKit Go.Proofs.Tryz
theorem z7 {p:Prop} (h:p):Go.RowKit.Hid p:=Go.Lib.hid h
theorem z8 {B:Nat} {w:Go.World}:Go.RowKit.Below B w w:=Go.RowKit.Below.refl B w
theorem zA {n:Nat}:n<=n:=Nat.le_refl n
theorem zB {α:Type _} {l:List α} {i:Nat} {a:α}:l[i]?=some a↔∃h:i<l.length,l[i]=a:=List.getElem?_eq_some_iff
theorem zC {α:Type _} {l:Array α} {i:Nat} {a:α}:l[i]?=some a↔∃h:i<l.size,l[i]=a:=Array.getElem?_eq_some_iff
theorem zD {n:Nat}:0<=n:=Nat.zero_le n
theorem zE {a b c:Nat} (h:a<=b) (k:b<=c):a<=c:=Nat.le_trans h k
theorem zF {α:Type _} {a b:α} (h:some a=some b):a=b:=Option.some.inj h
theorem zG {b:ByteArray} {i j:Nat}:(b.extract i j).size=min j b.size-i:=ByteArray.size_extract
theorem zH {α:Type _} {l m:List α}:(l++m).length=l.length+m.length:=List.length_append
theorem y04(n:Int)(h₀:0<=n)(h₁:n<2^63):IntKind.i64.wrap n=n:=by rw[IntKind.wrap_i64];omega
theorem yBg(i:Nat)(hi:i<=63)(x:Int)(h₀:0<=x)(h₁:x<9223372036854775808):bits .and .i64 x (2^i-1)=x%2^i:=
 bits_mask .i64 63 (by decide) y04 i hi x h₀ h₁
theorem y5U(x:Int)(h₀:0<=x)(h₁:x<9223372036854775808):bits .and .i64 x 31=x%32:=yBg 5 (by decide) x h₀ h₁
theorem yCw(x:Int)(h₀:0<=x)(h₁:x<9223372036854775808):bits .and .i64 x 255=x%256:=yBg 8 (by decide) x h₀ h₁
theorem y4b(i:Nat)(x y:Int)(hx₀:0<=x)(hx:x%2^i=0)(hx₁:x<9223372036854775808)(hy₀:0<=y)(hy:y<2^i)(hy₁:y<9223372036854775808):
 bits .or .i64 x y=x+y:=bits_join .i64 63 (by decide) y04 i x y hx₀ hx hx₁ hy₀ hy hy₁
theorem y2o(x y:Int)(hx₀:0<=x)(hx:x%256=0)(hx₁:x<9223372036854775808)(hy₀:0<=y)(hy:y<256):
 bits .or .i64 x y=x+y:=y4b 8 x y hx₀ hx hx₁ hy₀ hy (by omega)
theorem y57{k:IntKind}{a b:Int}{x y:Bool}(h:a=b)(h':x=y):Ending.returned (.tuple #[.int k a,.bool x])=.returned (.tuple #[.int k b,.bool y]):=by rw[h,h']
theorem y3A{k:IntKind}{a b:Int}(h:a=b):Ending.returned (.int k a)=.returned (.int k b):=by rw[h]
theorem y03{x y:Bool}(h:x=y):Ending.returned (.bool x)=.returned (.bool y):=by rw[h]
theorem ret_s{a b:ByteArray}(h:a=b):Ending.returned (.string a)=.returned (.string b):=by rw[h]
end
section
open Go.Proofs.Tryz
def ini(c:Int):Int:=if 1<=c/\c<=20 then c-2 else 0
def iniB(c:Int):Bool:=decide (1<=c/\c<=20)
def med(c:Int):Int:=
 if c=2 then -1 else if 3<=c/\c<=7 then c-3 else if 10<=c/\c<=15 then c-5
 else if 18<=c/\c<=23 then c-7 else if 26<=c/\c<=29 then c-9 else 0
def medB(c:Int):Bool:=decide (2<=c/\c<=7\/10<=c/\c<=15\/18<=c/\c<=23\/26<=c/\c<=29)
def fin(c:Int):Int:=if 1<=c/\c<=17 then c-1 else if 19<=c/\c<=29 then c-2 else 0
def finB(c:Int):Bool:=decide (1<=c/\c<=17\/19<=c/\c<=29)
def medCode(m:Int):Int:=if m = -1 then 2 else if m<=4 then m+3 else if m<=10 then m+5 else if m<=16 then m+7 else m+9
def finCode(f:Int):Int:=if f<=16 then f+1 else f+2
theorem y2M(m:Int)(h0 : -1<=m)(h1:m<=20):0<=medCode m/\medCode m<=31:=by unfold medCode;omega
theorem y1I(f:Int)(h0:0<=f)(h1:f<=27):0<=finCode f/\finCode f<=31:=by unfold finCode;omega
theorem ini_bd(c:Int) : -1<=ini c/\ini c<=18:=by unfold ini;omega
theorem med_bd(c:Int) : -1<=med c/\med c<=20:=by unfold med;omega
theorem fin_bd(c:Int):0<=fin c/\fin c<=27:=by unfold fin;omega
def syl(i m f:Int):Int:=if 0<=i/\i<=18/\0<=m/\m<=20/\0<=f/\f<=27 then 44032+(i*21+m)*28+f else 0
def sylB(i m f:Int):Bool:=decide (0<=i/\i<=18/\0<=m/\m<=20/\0<=f/\f<=27)
def aloneL:List UInt8:=[65,66,100,67,102,103,68,69,70,106,107,108,109,110,111,112,71,72,73,115,74,75,76,77,78,79,80,81,82,83]
def y2E(part:Int):Int:=Lib.indexByte aloneL part.toNat.toUInt8
def cons(part:Int):Int:=if y2E part<0 then 0 else 12593+y2E part
def y97(part:Int):Bool:=!decide (y2E part<0)
def signJ(n:Int):Int:=
 let i:=ini (n/1024%32);let m:=med (n/32%32);let f:=fin (n%32)
 if n<32768\/iniB (n/1024%32)=false\/medB (n/32%32)=false\/finB (n%32)=false then 0
 else if i ≠ -1/\m ≠ -1 then syl i m f
 else if i = -1/\m ≠ -1/\f=0 then 12623+m
 else if i ≠ -1/\m = -1/\f=0 then cons (65+i)
 else if i = -1/\m = -1/\f≠0 then cons (97+f)
 else 0
def signJB(n:Int):Bool:=!decide (signJ n=0)
end
section
open Go.RowKit Go.Proofs.Tryz
theorem bt{w a b:World}(h:Below w.heap.size w a)(k:Below a.heap.size a b):Below w.heap.size w b:=h.trans (k.mono h.size)
theorem bal{w a:World}(h:Below w.heap.size w a)(o:Obj):Below w.heap.size w (a.alloc o):=h.alloc h.size o
theorem bdn{w a:World}(h:Below w.heap.size w a)(n:Nat):Below w.heap.size w (a.drewN n):=h.trans ⟨rfl,rfl,rfl,zA,fun _ _=>rfl⟩
theorem zp{w:World}{b o:Nat}{v:Value}(h:w.cell? ⟨b,o,none⟩=some v):b<w.heap.size:=by
 rcases Nat.lt_or_ge b w.heap.size with h'|h'
 . exact h'
 . simp[World.cell?,Array.getElem?_eq_none h']at h
theorem kc{w w':World}{b o:Nat}{v:Value}(hb:Below w.heap.size w w')(h:w.cell? ⟨b,o,none⟩=some v):w'.cell? ⟨b,o,none⟩=some v:=
 (hb.cell (p:=⟨b,o,none⟩) (zp h)).trans h
theorem kf{w w':World}{b o:Nat}{v:Value}(hb:Below w.heap.size w w')(h:w.cell? ⟨b,o,none⟩=some v)(hf:w.frozen? ⟨b,o,none⟩=false):w'.frozen? ⟨b,o,none⟩=false:=
 (hb.frozen (p:=⟨b,o,none⟩) (zp h)).trans hf
def Live(w:World)(b o:Nat)(v:Value):Prop:=w.cell? ⟨b,o,none⟩=some v/\w.frozen? ⟨b,o,none⟩=false
theorem Live.keep{w w':World}{b o:Nat}{v:Value}(h:Live w b o v)(hb:Below w.heap.size w w'):Live w' b o v:=⟨kc hb h.1,kf hb h.1 h.2⟩
theorem Live.lt{w:World}{b o:Nat}{v:Value}(h:Live w b o v):b<w.heap.size:=zp h.1
theorem Live.fresh(w:World)(c:Array Value)(t:TypeId)(i:Nat)(v:Value)(h:c[i]?=some v):Live (w.alloc (.cells c t)) w.heap.size i v:=
 ⟨by rw[World.cell?_alloc_new];exact h,World.frozen?_alloc_at _ _ _ _ rfl⟩
theorem Live.alloc{w:World}{b o:Nat}{v:Value}(h:Live w b o v)(x:Obj):Live (w.alloc x) b o v:=h.keep ((z8).alloc (zA) x)
theorem Live.drew{w:World}{b o:Nat}{v:Value}(h:Live w b o v):Live w.drew b o v:=h.keep (z8).drew
def bcells(l:List UInt8):List Value:=l.map fun b=>Value.int .u8 (b.toNat:Int)
theorem y0i(l:List UInt8):(bcells l).length=l.length:=by simp[bcells]
theorem y0j(l m:List UInt8):bcells (l++m)=bcells l++bcells m:=by simp[bcells]
theorem y2T{P:Program}{w:World}{base:Nat}{e:TypeId}{v:Value}{n:Nat}{l:List UInt8}(src dst:TypeId)
 (hs:P.underlying src=some (.slice e)) (he:P.underlying e=some (.int .u8)) (hd:P.underlying dst=some .string)
 (H5:w.ownsRow base e 1 v n (bcells l)):(convert src dst v).run P w=.ok (.string ⟨l.toArray⟩) w:=by
 have H6:l.length=n:=by have:=H5.1;rw[y0i]at this;omega
 rcases H5.2 with⟨rfl,rfl⟩|⟨g,cap,cur,rfl,hg,hh,H8,Ha,H9,H7⟩
 . have:l = []:=List.eq_nil_of_length_eq_zero H6
   subst this;exact Lib.run_convert_nil_bytes w src dst e 0 hs he hd
 . subst H6
   refine run_convert_bytes_back w src dst e ⟨g,0,none⟩ cap l hs he hd ?_;intro j hj;have:=H5.cellAt j (by omega);have ea:(⟨g,0,none⟩:Addr).add j=⟨g,j,none⟩:=by
    by_cases h0:j=0
    . subst h0;rfl
    . simp[Addr.add,h0]
   rw[ea,this];simp[bcells,hj]
theorem y6f(l:List UInt8)(j:Nat)(b:UInt8):(bcells l).set j (.int .u8 (b.toNat:Int))=bcells (l.set j b):=by
 simp[bcells,List.map_set]
end
section
open Go.Proofs.Tryz
def dec(l:List UInt8):Nat×Nat:=Lib.decodeN l.length (l.getD 0 0).toNat (l.getD 1 0).toNat (l.getD 2 0).toNat (l.getD 3 0).toNat
theorem y3J(l:List UInt8)(i:Nat):(⟨l.toArray⟩:ByteArray).get! i=l.getD i 0:=by
 simp[ByteArray.get!,List.getD];rfl
theorem y6Y(l:List UInt8)(i:Nat):Utf8.decode ⟨l.toArray⟩ i=dec (l.drop i):=by
 rw[Lib.decode_at,y3J,y3J,y3J,y3J];unfold dec;have hs:(⟨l.toArray⟩:ByteArray).size=l.length:=by simp[ByteArray.size]
 rw[hs];simp[List.getD,List.getElem?_drop]
theorem decodeN_cases(n b0 b1 b2 b3:Nat):Lib.decodeN n b0 b1 b2 b3=(65533,1) \/
 (b0<128/\Lib.decodeN n b0 b1 b2 b3=(b0,1))\/((Lib.decodeN n b0 b1 b2 b3).2=2/\1<n)\/((Lib.decodeN n b0 b1 b2 b3).2=3/\2<n)\/((Lib.decodeN n b0 b1 b2 b3).2=4/\3<n):=by
 unfold Lib.decodeN
 repeat' split
 all_goals simp_all
theorem y0A(l:List UInt8):1<=(dec l).2/\(dec l).2<=4:=by
 unfold dec;rcases decodeN_cases l.length (l.getD 0 0).toNat (l.getD 1 0).toNat (l.getD 2 0).toNat (l.getD 3 0).toNat with h|⟨_,h⟩|⟨h,_⟩|⟨h,_⟩|⟨h,_⟩
 all_goals (rw[h];omega)
theorem y3N(l:List UInt8)(h:l ≠ []):(dec l).2<=l.length:=by
 have:0<l.length:=List.length_pos_iff.2 h;unfold dec;rcases decodeN_cases l.length (l.getD 0 0).toNat (l.getD 1 0).toNat (l.getD 2 0).toNat (l.getD 3 0).toNat with h|⟨_,h⟩|⟨h,_⟩|⟨h,_⟩|⟨h,_⟩
 all_goals (rw[h];omega)
def y00(l:List UInt8):Bool:=decide ((dec l).1=65533)&&decide ((dec l).2<=1)
theorem y3M(l:List UInt8):(dec l).1<1114112:=by
 unfold dec Lib.decodeN
 repeat' split
 all_goals omega
def scanF:Nat->List UInt8->Nat->Nat->Nat×Option Nat
 | 0,_,_,n=>(n,none)
 | f+1,l,at_,n=>if l = []then(n,none)else if y00 l then(0,some at_)else scanF f (l.drop (dec l).2) (at_+(dec l).2) (n+1)
def scanL(l:List UInt8):Nat×Option Nat:=scanF l.length l 0 0
theorem y2J(f:Nat)(l:List UInt8)(at_ n:Nat)(hl:l ≠ [])(hb:y00 l=false):scanF (f+1) l at_ n=scanF f (l.drop (dec l).2) (at_+(dec l).2) (n+1):=by
 rw[scanF,if_neg hl,hb];rfl
theorem y1u(f:Nat)(l:List UInt8)(at_ n:Nat)(hl:l ≠ [])(hb:y00 l=true):scanF (f+1) l at_ n=(0,some at_):=by
 rw[scanF,if_neg hl,hb];rfl
theorem y8H(f at_ n:Nat):scanF f [] at_ n=(n,none):=by cases f<;>rfl
theorem y0E(s:ByteArray)(a:Nat):(s.extract a s.size).data.toList=s.data.toList.drop a:=by
 rw[Lib.extract_data];apply List.take_of_length_le;simp
theorem y1Z(s:ByteArray):(⟨s.data.toList.toArray⟩:ByteArray)=s:=by
 cases s;simp
abbrev bl(s:ByteArray):List UInt8:=s.data.toList
theorem zJ(s:ByteArray):(bl s).length=s.size:=by simp[bl]
abbrev Tok:=List UInt8->Option (List UInt8×Nat)
def runT(tok:Tok):Nat->List UInt8->Nat->List UInt8->List UInt8×Option Nat
 | 0,_,_,acc=>(acc,none)
 | f+1,l,at_,acc=>if l = []then(acc,none)else match tok l with
  | none=>([],some at_)
  | some (t,k)=>runT tok f (l.drop k) (at_+k) (acc++t)
def decT(tok:Tok)(l:List UInt8):List UInt8×Option Nat:=runT tok l.length l 0 []
structure Near (tok:Tok):Prop where
 pos:∀l t k,tok l=some (t,k)->1<=k/\k<=l.length
 more:∀l m t k,tok l=some (t,k)->tok (l++m)=some (t,k)
theorem decodeN_more(n n' b0 b1 b2 b3 c1 c2 c3:Nat)(h1:1<n->c1=b1)(h2:2<n->c2=b2)(h3:3<n->c3=b3)(hn:n<=n')
 (hg:¬(Lib.decodeN n b0 b1 b2 b3=(65533,1))):Lib.decodeN n' b0 c1 c2 c3=Lib.decodeN n b0 b1 b2 b3:=by
 by_cases a0:b0<128
 . simp only[Lib.decodeN,if_pos a0]
 by_cases a1:b0/32=6/\(1<n/\b1/64=2)
 . have:=h1 a1.2.1
   subst this;have a1':b0/32=6/\(1<n'/\c1/64=2):=⟨a1.1,by omega,a1.2.2⟩;simp only[Lib.decodeN,if_neg a0,if_pos a1,if_pos a1']
 by_cases a2:b0/16=14/\(1<n/\b1/64=2)/\(2<n/\b2/64=2)
 . have e1:=h1 a2.2.1.1
   have e2:=h2 a2.2.2.1;subst e1 e2;have a1':¬(b0/32=6/\(1<n'/\c1/64=2)):=by omega
   have a2':b0/16=14/\(1<n'/\c1/64=2)/\(2<n'/\c2/64=2):=⟨a2.1,⟨by omega,a2.2.1.2⟩,by omega,a2.2.2.2⟩;simp only[Lib.decodeN,if_neg a0,if_neg a1,if_pos a2,if_neg a1',if_pos a2']
 by_cases a3:b0/8=30/\(1<n/\b1/64=2)/\(2<n/\b2/64=2)/\(3<n/\b3/64=2)
 . have e1:=h1 a3.2.1.1
   have e2:=h2 a3.2.2.1.1;have e3:=h3 a3.2.2.2.1;subst e1 e2 e3;have a1':¬(b0/32=6/\(1<n'/\c1/64=2)):=by omega
   have a2':¬(b0/16=14/\(1<n'/\c1/64=2)/\(2<n'/\c2/64=2)):=by omega
   have a3':b0/8=30/\(1<n'/\c1/64=2)/\(2<n'/\c2/64=2)/\(3<n'/\c3/64=2):=⟨a3.1,⟨by omega,a3.2.1.2⟩,⟨by omega,a3.2.2.1.2⟩,by omega,a3.2.2.2.2⟩;simp only[Lib.decodeN,if_neg a0,if_neg a1,if_neg a2,if_pos a3,if_neg a1',if_neg a2',if_pos a3']
 . exact absurd (by simp only[Lib.decodeN,if_neg a0,if_neg a1,if_neg a2,if_neg a3]) hg
theorem y2v(l:List UInt8):y00 l=true↔dec l=(65533,1):=by
 unfold y00;have:=y0A l;rcases h:dec l with⟨a,b⟩
 rw[h]at this;simp only[Bool.and_eq_true,decide_eq_true_eq,Prod.mk.injEq];constructor
 . intro x;omega
 . intro x;omega
theorem yII(l m:List UInt8)(h:y00 l=false)(H6:l ≠ []):dec (l++m)=dec l:=by
 have H5:0<l.length:=List.length_pos_iff.2 H6;have g:∀i,i<l.length->(l++m).getD i 0=l.getD i 0:=by
  intro i hi;simp[List.getD,List.getElem?_append,hi]
 have hb:¬dec l=(65533,1):=fun e=>by rw[(y2v l).2 e]at h;cases h
 unfold dec at hb ⊢;rw[g 0 H5];exact decodeN_more _ _ _ _ _ _ _ _ _ (fun hi=>by rw[g 1 hi]) (fun hi=>by rw[g 2 hi]) (fun hi=>by rw[g 3 hi]) (by simp) hb
def tokU:Tok:=fun l=>if l = []\/y00 l=true then none else some (l.take (dec l).2,(dec l).2)
theorem near_U:Near tokU:=by
 constructor
 . intro l t k h
   unfold tokU at h;split at h
   . cases h
   . rename_i c
     simp only[Option.some.injEq,Prod.mk.injEq]at h;have:=y0A l;have:=y3N l (fun e=>c (Or.inl e));omega
 . intro l m t k h
   unfold tokU at h ⊢;split at h
   . cases h
   . rename_i c
     have H5:l ≠ []:=fun e=>c (Or.inl e)
     have hb:y00 l=false:=by cases e:y00 l<;>simp[e]at c ⊢
     have hm:=yII l m hb H5;have H6:y00 (l++m)=false:=by unfold y00 at hb ⊢;rw[hm];exact hb
     rw[if_neg (by simp[H6,H5]),hm];simp only[Option.some.injEq,Prod.mk.injEq]at h ⊢;refine⟨?_,h.2⟩;rw[List.take_append_of_le_length (y3N l H5)];exact h.1
def tokS(sg:UInt8->Option (List UInt8)):Tok:=fun l=>match l with
 | []=>none
 | b::_=>(sg b).map fun t=>(t,1)
def tokD(sg:UInt8->UInt8->List UInt8):Tok:=fun l=>match l with
 | []=>none
 | [b]=>if b<128 then some ([b],1)else none
 | b::c::_=>if b<128 then some ([b],1)else if sg b c = []then none else some (sg b c,2)
def decU(l:List UInt8):List UInt8×Option Nat:=match(scanL l).2 with
 | none=>(l,none)
 | some k=>([],some k)
theorem runU:∀(f:Nat) (l:List UInt8) (at_ n:Nat) (acc:List UInt8),l.length<=f ->
 runT tokU f l at_ acc=match(scanF f l at_ n).2 with
  | none=>(acc++l,none)
  | some k=>([],some k):=by
 intro f
 induction f with
 | zero=>
  intro l at_ n acc hf;have:l = []:=List.eq_nil_of_length_eq_zero (by omega);subst this;simp[runT,scanF]
 | succ f ih=>
  intro l at_ n acc hf;by_cases hl:l = []
  . subst hl
    simp[runT,scanF]
  . have hd:=y0A l
    have H5:=y3N l hl;cases hb:y00 l with
    | true=>
     rw[y1u f l at_ n hl hb,runT,if_neg hl];simp[tokU,hb]
    | false=>
     rw[y2J f l at_ n hl hb,runT,if_neg hl];have ht:tokU l=some (l.take (dec l).2,(dec l).2):=by unfold tokU;rw[if_neg (by simp[hl,hb])]
     rw[ht];simp only;rw[ih _ _ (n+1) _ (by rw[List.length_drop];omega)];rw[List.append_assoc,List.take_append_drop]
theorem yIj(l:List UInt8):decT tokU l=decU l:=by
 unfold decT decU scanL;rw[runU l.length l 0 0 [] (zA)];simp
end
section
open Go.RowKit Go.Proofs.Tryz
structure TW (w:World):Prop where
 u8:Lib.Utf8Tabs 1 2 w
 db:∀i,i<32->w.cell? ⟨4,i,none⟩=some (.int .u8 (Lib.deBruijn32tab.getD i 0:Nat))
 ml:∃m,w.cell? ⟨3,0,none⟩=some (.int .i64 m)
 sz:5<=w.heap.size
theorem TW.keep{w w':World}(h:TW w)(hs:5<=w'.heap.size)(hc:∀b o,b<5->w'.cell? ⟨b,o,none⟩=w.cell? ⟨b,o,none⟩):TW w':=by
 refine⟨⟨?_,?_⟩,?_,?_,hs⟩
 . intro c hl;rw[hc _ _ (by decide)];exact h.u8.1 c hl
 . intro i hi;rw[hc _ _ (by decide),hc _ _ (by decide)];exact h.u8.2 i hi
 . intro i hi;rw[hc _ _ (by decide)];exact h.db i hi
 . obtain⟨m,hm⟩:=h.ml;exact⟨m,(hc _ _ (by decide)).trans hm⟩
theorem TW.below{w w':World}{B:Nat}(h:TW w)(hb:Below B w w')(hB:5<=B):TW w':=
 h.keep (zE h.sz hb.size) fun b o hl=>hb.cell (p:=⟨b,o,none⟩) (Nat.lt_of_lt_of_le hl hB)
theorem TW.bel{w w':World}(h:TW w)(hb:Below w.heap.size w w'):TW w':=h.below hb h.sz
theorem TW.alloc{w:World}(h:TW w)(o:Obj):TW (w.alloc o):=h.bel ((z8).alloc (zA) o)
theorem TW.drew{w:World}(h:TW w):TW w.drew:=h.bel (z8).drew
end
section
open Go.RowKit Go.Maps Go.MapKept Go.ChangeMaps Go.Proofs.Tryz
def MapS(P:Program)(k:TypeId)(w:World)(b:Nat)(S:Value->Value->Prop):Prop:=
 ∃es clock,w.heap[b]?=some (.map es clock)/\(∀x∈es.toList,∃l,keyOf P k x.key=some l)/\(es.toList.Pairwise fun x y=>x.key≠y.key)/\∀u v,S u v↔∃x∈es.toList,x.key=u/\x.val=v
section
variable {P:Program} {k e t:TypeId} {w:World} {b:Nat} {S:Value->Value->Prop}
theorem MapS.lt(h:MapS P k w b S):b<w.heap.size:=by
 obtain⟨es,clock,hb,_⟩:=h;exact(Array.getElem?_eq_some_iff.1 hb).1
theorem MapS.made(w:World)(P:Program)(k:TypeId):MapS P k (w.alloc (.map #[] 0)) w.heap.size (fun _ _=>False):=
 ⟨#[],0,(MapKept.heap_alloc w _).1,by simp,by simp,by simp⟩
theorem MapS.congr{S':Value->Value->Prop}(h:MapS P k w b S)(hs:∀u v,S u v↔S' u v):MapS P k w b S':=by
 obtain⟨es,clock,hb,hk,hd,hp⟩:=h;exact⟨es,clock,hb,hk,hd,fun u v=>(hs u v).symm.trans (hp u v)⟩
theorem MapS.blk{w':World}(h:MapS P k w b S)(he:w'.heap[b]?=w.heap[b]?):MapS P k w' b S:=by
 obtain⟨es,clock,hb,r⟩:=h;exact⟨es,clock,he.trans hb,r⟩
theorem MapS.bel{w':World}(h:MapS P k w b S)(hb:Below w.heap.size w w'):MapS P k w' b S:=h.blk (hb.block b h.lt)
theorem MapS.look(h:MapS P k w b S)(K:Keyed P k)(ht:P.underlying t=some (.map k e))(c:Bool){z:Value}(hz:(zeroValue e).run P w=.ok z w){key:Value}{kl:Lit}(H5:keyOf P k key=some kl):
 ((∀v,¬S key v)/\(Instr.lookup t (.map (some b)) key c).run P w=.ok (if c then .tuple #[z,.bool false]else z) w) \/
 ∃v,S key v/\(Instr.lookup t (.map (some b)) key c).run P w=.ok (if c then .tuple #[v,.bool true]else v) w:=by
 obtain⟨es,clock,hb,H7,hd,hp⟩:=h;rcases K.find w H5 es.toList H7 with⟨h1,h2⟩|⟨j,e0,h1,h2,h3⟩
 . refine .inl ⟨fun v hv=>?_,by simp[Instr.lookup,run_underlying ht,MapKept.run_getObj_map hb,K.check w _ H5,h1,hz,Result.andThen]⟩
   obtain⟨x,hx,H6,_⟩:=(hp key v).1 hv;exact h2 x hx H6
 . exact .inr ⟨e0.val,(hp _ _).2 ⟨e0,List.mem_of_getElem? h2,h3,rfl⟩,by simp[Instr.lookup,run_underlying ht,MapKept.run_getObj_map hb,K.check w _ H5,h1,Result.andThen]⟩
theorem MapS.store(h:MapS P k w b S)(K:Keyed P k)(ht:P.underlying t=some (.map k e)){key val:Value}{kl:Lit}(H5:keyOf P k key=some kl):
 ∃w',(Instr.mapUpdate t (.map (some b)) key val).run P w=.ok () w'/\MapS P k w' b (fun u v=>(u=key/\v=val)\/(u≠key/\S u v))/\w.grownBy w' (some b):=by
 obtain⟨es,clock,hb,Hd,hd,hp⟩:=h;rcases K.find w H5 es.toList Hd with⟨h1,h2⟩|⟨j,e0,h1,h2,h3⟩
 . refine⟨setBlock w b (.map (es.push ⟨key,val,clock⟩) (clock+1)),by simp[Instr.mapUpdate,run_underlying ht,MapKept.run_getObj_map hb,K.check w false H5,h1,MapKept.run_setObj_map _ hb,Result.andThen,setBlock],
    ⟨_,_,heap_setBlock_same hb _,?_,?_,?_⟩,⟨rfl,rfl,rfl,by simp[setBlock],fun i _ hi=>heap_setBlock_other hb _ (fun e=>hi (by rw[e]))⟩⟩
   . intro x hx
     simp only[Array.toList_push,List.mem_append,List.mem_singleton]at hx;rcases hx with hx|rfl
     . exact Hd x hx
     . exact⟨kl,H5⟩
   . rw[Array.toList_push,List.pairwise_append]
     exact⟨hd,by simp,fun x hx y hy=>by simp only[List.mem_singleton]at hy;subst hy;exact h2 x hx⟩
   . intro u v
     simp only[Array.toList_push,List.mem_append,List.mem_singleton];constructor
     . rintro(⟨rfl,rfl⟩|⟨hu,hs⟩)
       . exact⟨_,.inr rfl,rfl,rfl⟩
       . obtain⟨x,hx,h⟩:=(hp u v).1 hs
         exact⟨x,.inl hx,h⟩
     . rintro⟨x,hx|rfl,rfl,rfl⟩
       . exact .inr ⟨h2 x hx,(hp _ _).2 ⟨x,hx,rfl,rfl⟩⟩
       . exact .inl ⟨rfl,rfl⟩
 . have hj:es[j]?=some e0:=by simpa using h2
   have He:j<es.toList.length:=(List.getElem?_eq_some_iff.1 h2).1;have H6:(es.modify j (fun e'=>{ e' with key:=key,val:=val })).toList=es.toList.set j { e0 with key:=key,val:=val }:=by rw[Array.toList_modify,modify_eq_set _ _ _ _ h2]
   have H8:∀i x,es.toList[i]?=some x->i≠j->x.key≠key:=by
    intro i x hi H9 e1;rw[<-h3]at e1;have Ha:=(List.getElem?_eq_some_iff.1 hi);have H7:=(List.getElem?_eq_some_iff.1 h2);rcases Nat.lt_or_gt_of_ne H9 with Hc|Hc
    . have:=List.pairwise_iff_getElem.1 hd i j Ha.1 H7.1 Hc
      rw[Ha.2,H7.2]at this;exact this e1
    . have:=List.pairwise_iff_getElem.1 hd j i H7.1 Ha.1 Hc
      rw[Ha.2,H7.2]at this;exact this e1.symm
   have who:∀x∈es.toList.set j { e0 with key:=key,val:=val },x = { e0 with key:=key,val:=val }\/(x∈es.toList/\x.key≠key):=by
    intro x hx;obtain⟨i,hi,ex⟩:=List.getElem_of_mem hx;rw[List.getElem_set]at ex;split at ex
    . exact Or.inl ex.symm
    . rename_i H9
      have Hf:i<es.toList.length:=by simpa using hi
      exact Or.inr ⟨ex ▸ List.getElem_mem Hf,H8 i x (by rw[List.getElem?_eq_getElem Hf,ex]) (fun e1=>H9 e1.symm)⟩
   refine⟨setBlock w b (.map (es.modify j (fun e'=>{ e' with key:=key,val:=val })) clock),by simp[Instr.mapUpdate,run_underlying ht,MapKept.run_getObj_map hb,K.check w false H5,h1,hj,h3,K.stays w H5,MapKept.run_setObj_map _ hb,Result.andThen,setBlock],
    ⟨_,_,heap_setBlock_same hb _,?_,?_,?_⟩,⟨rfl,rfl,rfl,by simp[setBlock],fun i _ hi=>heap_setBlock_other hb _ (fun e=>hi (by rw[e]))⟩⟩
   . intro x hx
     rw[H6]at hx;rcases who x hx with rfl|⟨Hb,_⟩
     . exact⟨kl,H5⟩
     . exact Hd x Hb
   . rw[H6]
     have hm:(es.toList.set j { e0 with key:=key,val:=val }).map (·.key)=es.toList.map (·.key):=by
      rw[List.map_set];have:(es.toList.map (·.key))[j]?=some key:=by rw[List.getElem?_map,h2];simp[h3]
      apply List.ext_getElem?;intro i;rw[List.getElem?_set];split
      . rename_i e1;subst e1
        split
        . rw[this]
        . rename_i hc;exact absurd (by simpa using He) hc
      . rfl
     have h0:(es.toList.map (·.key)).Pairwise (· ≠ ·):=List.pairwise_map.2 hd;rw[<-hm]at h0;exact List.pairwise_map.1 h0
   . intro u v
     rw[H6];constructor
     . rintro(⟨rfl,rfl⟩|⟨hu,hs⟩)
       . exact⟨{ e0 with key:=u,val:=v },List.mem_iff_getElem.2 ⟨j,by simpa using He,by simp⟩,rfl,rfl⟩
       . obtain⟨x,hx,rfl,rfl⟩:=(hp u v).1 hs
         obtain⟨i,hi,ex⟩:=List.getElem_of_mem hx;have H9:i≠j:=by
          rintro rfl;have:=(List.getElem?_eq_some_iff.1 h2).2;rw[ex]at this;subst this;exact hu h3
         refine⟨x,List.mem_iff_getElem.2 ⟨i,by simpa using hi,?_⟩,rfl,rfl⟩;rw[List.getElem_set,if_neg (fun e1=>H9 e1.symm)];exact ex
     . rintro⟨x,hx,rfl,rfl⟩
       rcases who x hx with rfl|⟨Hb,H9⟩
       . exact .inl ⟨rfl,rfl⟩
       . exact .inr ⟨H9,(hp _ _).2 ⟨x,Hb,rfl,rfl⟩⟩
end
section
variable {P:Program} {ops:Array Oper} {rest:List Oper} {o:Oper} {a:Act} {Q:Exit->Act->World->Prop}
theorem y11(w:World)(hg:o.guard=none)(m x:Operand)(t:TypeId)(H7:o.op=Op.lookup t m x true)
 (k e:TypeId) (K:Keyed P k) (ht:P.underlying t=some (.map k e)) (z:Value) (hz:(zeroValue e).run P w=.ok z w) (b:Nat) (S:Value->Value->Prop)
 (hm:a.eval m=.map (some b)) (hS:MapS P k w b S) (key:Value) (kl:Lit) (hx:a.eval x=key) (H6:keyOf P k key=some kl)
 (h0:(∀v,¬S key v)->wpList P ops Q rest (a.put o.dst (.tuple #[z,.bool false])) w) (h1:∀v,S key v->wpList P ops Q rest (a.put o.dst (.tuple #[v,.bool true])) w):
 wpList P ops Q (o::rest) a w:=by
 refine wpList_plain hg fun K' H8=>?_
 rcases hS.look K ht true hz H6 with⟨hn,H5⟩|⟨v,hv,H5⟩
 . unfold Oper.wp
   simp[execOp,H7,hm,hx,H5,Result.andThen];exact H8 _ _ (h0 hn)
 . unfold Oper.wp
   simp[execOp,H7,hm,hx,H5,Result.andThen];exact H8 _ _ (h1 v hv)
theorem y1Q(w:World)(hg:o.guard=none)(m x v:Operand)(t:TypeId)(H7:o.op=Op.mapUpdate t m x v)
 (k e:TypeId) (K:Keyed P k) (ht:P.underlying t=some (.map k e)) (b:Nat) (S:Value->Value->Prop)
 (hm:a.eval m=.map (some b)) (hS:MapS P k w b S) (key val:Value) (kl:Lit) (hx:a.eval x=key) (hv:a.eval v=val) (H6:keyOf P k key=some kl)
 (hK:∀w',MapS P k w' b (fun u v=>(u=key/\v=val)\/(u≠key/\S u v))->w.grownBy w' (some b)->wpList P ops Q rest (a.put o.dst undef) w'):
 wpList P ops Q (o::rest) a w:=by
 refine wpList_plain hg fun K' H8=>?_
 obtain⟨w',H5,r1,r2⟩:=hS.store (val:=val) K ht H6;unfold Oper.wp;simp[execOp,H7,hm,hx,hv,H5,Result.andThen];exact H8 _ _ (hK w' r1 r2)
end
end
section
open Go.RowKit Go.Proofs.Tryz
section
variable {P:Program} {ops:Array Oper} {rest:List Oper} {o:Oper} {a:Act} {Q:Exit->Act->World->Prop}
theorem wpList_store_row{w:World}(H7:o.guard=none)(H8:o.dst=none)(ty:TypeId)(x v:Operand)(ho:o.op=.store ty x v)
 (g:Nat) (hx:a.eval x=.pointer (some ⟨g,0,none⟩)) (t:TypeId) (cur cs:Array Value) (hg:w.heap[g]?=some (.cells cur t (0,0))) (hv:a.eval v=.agg cs)
 (hi:(P.info? ty).map (·.size)=some cs.size) (H5:cur.size=cs.size) (h1:∀u∈cs.toList,u.oneCell'=true)
 (h:wpList P ops Q rest a (w.setRow g cs)):wpList P ops Q (o::rest) a w:=by
 refine wpList_plain H7 fun K hK=>?_
 have H6:=run_storeCells_at P g 0 t cs.toList 0 cur w hg (by simp[H5]) h1;have e:(cur.toList.take (0+0)++cs.toList++cur.toList.drop (0+0+cs.toList.length)).toArray=cs:=by
  rw[List.drop_of_length_le (by simp[H5])];simp
 rw[e]at H6;cases hq:P.info? ty with
 | none=>simp[hq]at hi
 | some i=>
  have hs:i.size=cs.size:=by simpa[hq]using hi
  unfold Oper.wp execOp;simp[ho,hx,hv,Instr.storeAt,Instr.sureAddr,storeVar,sizeOf,typeInfo,hq,hs,H6,Value.cells];have e2:a.put o.dst undef=a:=by rw[H8];rfl
  exact hK _ _ (by rw[e2];exact h)
theorem zc{w:World}(H9:o.guard=none)(t:TypeId)(x y:Operand)(ho:o.op=.index t x y)(n:Nat)(e:TypeId)(ht:P.underlying t=some (.array n e))(d:TypeDesc)
 (hu:P.underlying e=some d) (hd:(match d with | .struct _ | .array _ _=>true|_=>false)=true) (size:Nat) (hi:(P.info? e).map (·.size)=some size)
 (cs:Array Value) (hx:a.eval x=.agg cs) (k:IntKind) (i:Nat) (hy:a.eval y=.int k (i:Int)) (H8:i<n) (sub:Array Value) (H5:cs.extract (i*size) (i*size+size)=sub)
 (h:wpList P ops Q rest (a.put o.dst (.agg sub)) w):wpList P ops Q (o::rest) a w:=by
 refine wpList_plain H9 fun K hK=>?_
 cases hq:P.info? e with
 | none=>simp[hq]at hi
 | some ii=>
  have hs:ii.size=size:=by simpa[hq]using hi
  have H7:(isAgg e).run P w=.ok true w:=by
   unfold isAgg;rw[Sem.run_bind,run_underlying hu w];cases d<;>simp_all
  have H6:(Instr.index t (.agg cs) (.int k i)).run P w=.ok (.agg sub) w:=by
   simp[Instr.index,run_underlying ht,asIntOf,H8,part,H7,sizeOf,typeInfo,hq,hs,Sem.run_bind,H5]
  unfold Oper.wp execOp;simp[ho,hx,hy,H6,Result.andThen];exact hK _ _ h
end
theorem below_setRow{B:Nat}{v w:World}(h:Below B v w)(g:Nat)(hg:B<=g)(cs:Array Value):Below B v (w.setRow g cs):=
 h.trans ⟨rfl,rfl,rfl,by rw[setRow_size];exact zA,fun i hi=>setRow_other _ _ _ _ (by omega)⟩
theorem bdnB{B:Nat}{v w:World}(h:Below B v w)(n:Nat):Below B v (w.drewN n):=h.trans ⟨rfl,rfl,rfl,zA,fun _ _=>rfl⟩
end
section
open Go.ChangeShapes Go.WideShapes Go.ChangeAt Go.RowKit Go.Proofs.Tryz
theorem own:ownKnob Tryz.prog.godebug=none:=by kernel_rfl
theorem yCX{H:Type}{enc:TypeId×Value->H}{P:Program}{f:Func}{s:ChangeSpec}{W W':World}{args:Array Value}{v:Value}{ds gs:List (DataW H)}{before pa pv:List MemPlace}
 (hW:DataW.Whole enc P f.params.toList s.vars false W args.toList ds gs before)
 (H7:DataW.TrodAll enc P W' W.heap.size (fun _=>false) false f.resultTypes.toList (v.resultList f.resultTypes.size) (s.fn H (ds++gs)).results [])
 (H6:DataW.TrodAll enc P W' 0 (fun b=>decide (b<W.heap.size)) true f.params.toList args.toList (s.fn H (ds++gs)).args pa)
 (H5:DataW.TrodVars enc P W' (fun b=>decide (b<W.heap.size)) s.vars (s.fn H (ds++gs)).vars pv)
 (hb:Below W.heap.size W W'):s.post enc P f false true false false W args v W':=
 ⟨ds,gs,before,[],pa,pv,hW,H7,H6,H5,hb.frame _,fun h=>by cases h⟩
end
section
open Go.ChangeShapes Go.WideShapes Go.ChangeAt Go.RowKit Go.Shelf Go.Lib Go.Proofs.Tryz
theorem y3H{H:Type}{enc:TypeId×Value->H}{a:Assume}{C:Checked}{os:Os}{f:FuncId}{fn:Func}{s:ChangeSpec}{conds:List PathCond}{apart fresh H5 again:Bool}{X:World->Prop}
 (hX:∀(w w':World),w.heap=w'.heap->X w->X w')
 (own:ownKnob C.prog.godebug=none) (started:os.Started) (noInit:C.prog.inits.idxOf? f=none) (Hd:C.prog.funcs[f]?=some fn)
 (witness:∃(w:World) (tape:Tape) (i:Input),w.os=os/\(w.forCall tape i).Shaped C.prog/\i.vars = []/\Input.okWide C.prog (w.forCall tape i) .any w.heap.size f i /\
  ((s.pre enc C.prog fn conds apart (w.forCall tape i).memory i.args/\X (w.forCall tape i).memory)/\sizedMet enc C.prog fn (OpenSpec.ofChange s) apart (w.forCall tape i).memory i.args)/\a.holds C.prog (lone (Frame.enter C.prog f i.args .normal) [] (w.forCall tape i)))
 (contract:∀(W:World) (base:Nat) (args:Array Value) (ds gs:List (DataW H)) (before:List MemPlace),
  (∀(j:Nat) t v,fn.params[j]?=some t->args[j]?=some v->Value.okWide C.prog W .any base t v) ->
  DataW.Whole enc C.prog fn.params.toList s.vars apart W args.toList ds gs before ->
  X W->W.ShapedOpen C.prog ->
  Calls C.prog f args W fun e W'=>∃v,e=.returned v/\s.post enc C.prog fn apart fresh H5 again W args v W'):
 ReturnsInHanded a C os f .any (fun w args=>(s.pre enc C.prog fn conds apart w args/\X w)/\sizedMet enc C.prog fn (OpenSpec.ofChange s) apart w args) (s.post enc C.prog fn apart fresh H5 again):=by
 refine returnsInHanded_of_calls own started noInit witness ?_;intro w tape i _ Hb _ Hc H7 H8;obtain⟨_,_,_,fn',H9,_,_,_,_,H6⟩:=Hc;have e:fn'=fn:=zF (H9.symm.trans Hd);subst e;obtain⟨⟨⟨ds,gs,before,hw,hc⟩,hx⟩,hz⟩:=H7;have Ha:=DataW.Whole.of_heap (w':=w.forCall tape i) (by rfl) hw;refine(contract (w.forCall tape i) w.heap.size i.args ds gs before H6 Ha (hX _ _ (by rfl) hx) Hb).mono fun e W' ⟨v,he,hp⟩=>?_
 subst he;exact ChangeSpec.post_blind hp
def tren:Ren:={ f:=fun x=>x,t:=fun x=>if x=5 then 5 else if x=119 then 314 else if x=138 then 316 else 317,g:=fun x=>if x=3 then 1 else 2 }
theorem tT:U8Types prog tren:=⟨underlying5,underlying314,underlying316,underlying317⟩
theorem tX:U8Extra prog tren:=⟨by kernel_rfl,by kernel_rfl,by kernel_rfl,by kernel_rfl,by kernel_rfl,by kernel_rfl,by kernel_rfl⟩
theorem yBk:(Rows.laid_unicode_utf8_first:DataW Unit)=firstData:=by kernel_rfl
theorem y9N:(Rows.laid_unicode_utf8_acceptRanges:DataW Unit)=acceptData:=by kernel_rfl
theorem y9F:(Rows.laid_math_bits_deBruijn32tab:DataW Unit)=tabData .u8 (Lib.deBruijn32tab.map fun n=>((n:Nat):Int)):=by kernel_rfl
end
end Go.Proofs.YtndlekaahjccdaaGreatDoor
namespace Go.Proofs
open Tryz
open Go.Shelf
def Tryz.laysValid_ren:Go.Shelf.Ren:=⟨fun|196=>196|259=>285|n=>n,fun|9=>9|4=>4|3=>3|5=>5|12=>12|119=>314|0=>0|46=>224|139=>317|138=>316|53=>71|n=>n,fun|3=>1|4=>2|n=>n⟩
theorem Tryz.laysValid:Go.Proofs.Lays.n196 prog Tryz.laysValid_ren:={
 mixed:=by kernel_rfl
 f196:=Tryz.func196.trans (congrArg some (by kernel_rfl))
 f259:=Tryz.func285.trans (congrArg some (by kernel_rfl))
 t0:=underlying0
 a0:=isAgg0
 z0:=sizeOf0
 v0:=zeroValue0
 t3:=underlying3
 a3:=isAgg3
 z3:=sizeOf3
 v3:=zeroValue3
 t4:=underlying4
 a4:=isAgg4
 z4:=sizeOf4
 v4:=zeroValue4
 t5:=underlying5
 a5:=isAgg5
 z5:=sizeOf5
 v5:=zeroValue5
 t9:=underlying9
 a9:=isAgg9
 z9:=sizeOf9
 v9:=zeroValue9
 t12:=underlying12
 a12:=isAgg12
 z12:=sizeOf12
 v12:=zeroValue12
 t46:=underlying224
 a46:=isAgg224
 z46:=sizeOf224
 v46:=zeroValue224
 t53:=underlying71
 a53:=isAgg71
 z53:=sizeOf71
 v53:=zeroValue71
 t119:=underlying314
 a119:=isAgg314
 z119:=sizeOf314
 t138:=underlying316
 a138:=isAgg316
 z138:=sizeOf316
 v138:=zeroValue316
 t139:=underlying317
 a139:=isAgg317
 z139:=sizeOf317
 v139:=zeroValue317
 g3:=by kernel_rfl
 g4:=by kernel_rfl }
