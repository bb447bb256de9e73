/- Ba -/
import Derived.Lib.Hide
import Derived.Lib.Bytealg
import Derived.Lib.BufferRead
import Derived.WalkSmall
import Derived.Lib.DecodeN
import Derived.Lib.RuneBytes
set_option linter.all false
namespace Go.Proofs.YtagjkmkmphamoaaGreatDoor
open Go.RowKit
theorem jf2(n:Int)(h₀:0≤n)(h₁:n<2^63):IntKind.i64.wrap n=n:=by rw[IntKind.wrap_i64];omega
theorem vb8(i:Nat)(hi:i≤63)(x:Int)(h₀:0≤x)(h₁:x<9223372036854775808):bits .and .i64 x (2^i-1)=x%2^i:=
 bits_mask .i64 63 (by decide) jf2 i hi x h₀ h₁
theorem kn2(x:Int)(h₀:0≤x)(h₁:x<9223372036854775808):bits .and .i64 x 31=x%32:=vb8 5 (by decide) x h₀ h₁
theorem vj6(x:Int)(h₀:0≤x)(h₁:x<9223372036854775808):bits .and .i64 x 255=x%256:=vb8 8 (by decide) x h₀ h₁
theorem kh1(i:Nat)(x y:Int)(hx₀:0≤x)(hx:x%2^i=0)(hx₁:x<9223372036854775808)(hy₀:0≤y)(hy:y<2^i)(hy₁:y<9223372036854775808):
 bits .or .i64 x y=x+y:=bits_join .i64 63 (by decide) jf2 i x y hx₀ hx hx₁ hy₀ hy hy₁
theorem jw3(x y:Int)(hx₀:0≤x)(hx:x%256=0)(hx₁:x<9223372036854775808)(hy₀:0≤y)(hy:y<256):
 bits .or .i64 x y=x+y:=kh1 8 x y hx₀ hx hx₁ hy₀ hy (by omega)
theorem kk7{k:IntKind}{a b:Int}{x y:Bool}(h:a=b)(h':x=y):Ending.returned (.tuple #[.int k a,.bool x])=.returned (.tuple #[.int k b,.bool y]):=by rw[h,h']
theorem jr2{k:IntKind}{a b:Int}(h:a=b):Ending.returned (.int k a)=.returned (.int k b):=by rw[h]
theorem jg0{x y:Bool}(h:x=y):Ending.returned (.bool x)=.returned (.bool y):=by rw[h]
theorem kz4{a b:ByteArray}(h:a=b):Ending.returned (.string a)=.returned (.string b):=by rw[h]
end Go.Proofs.YtagjkmkmphamoaaGreatDoor
namespace Go.Proofs.YtagjkmkmphamoaaGreatDoor
def ini(c:Int):Int:=if 1≤c∧c≤20 then c-2 else 0
def iniB(c:Int):Bool:=decide (1≤c∧c≤20)
def med(c:Int):Int:=
 if c=2 then -1 else if 3≤c∧c≤7 then c-3 else if 10≤c∧c≤15 then c-5
 else if 18≤c∧c≤23 then c-7 else if 26≤c∧c≤29 then c-9 else 0
def medB(c:Int):Bool:=decide (2≤c∧c≤7∨10≤c∧c≤15∨18≤c∧c≤23∨26≤c∧c≤29)
def fin(c:Int):Int:=if 1≤c∧c≤17 then c-1 else if 19≤c∧c≤29 then c-2 else 0
def finB(c:Int):Bool:=decide (1≤c∧c≤17∨19≤c∧c≤29)
def medCode(m:Int):Int:=if m = -1 then 2 else if m≤4 then m+3 else if m≤10 then m+5 else if m≤16 then m+7 else m+9
def finCode(f:Int):Int:=if f≤16 then f+1 else f+2
theorem jt4(m:Int)(h0 : -1≤m)(h1:m≤20):0≤medCode m∧medCode m≤31:=by unfold medCode;omega
theorem jp1(f:Int)(h0:0≤f)(h1:f≤27):0≤finCode f∧finCode f≤31:=by unfold finCode;omega
theorem ini_bd(c:Int) : -1≤ini c∧ini c≤18:=by unfold ini;omega
theorem med_bd(c:Int) : -1≤med c∧med c≤20:=by unfold med;omega
theorem fin_bd(c:Int):0≤fin c∧fin c≤27:=by unfold fin;omega
def syl(i m f:Int):Int:=if 0≤i∧i≤18∧0≤m∧m≤20∧0≤f∧f≤27 then 44032+(i*21+m)*28+f else 0
def sylB(i m f:Int):Bool:=decide (0≤i∧i≤18∧0≤m∧m≤20∧0≤f∧f≤27)
def aloneL:List UInt8:=[65,66,100,67,102,103,68,69,70,106,107,108,109,110,111,112,71,72,73,115,74,75,76,77,78,79,80,81,82,83]
def aloneAt(part:Int):Int:=Lib.indexByte aloneL part.toNat.toUInt8
def cons(part:Int):Int:=if aloneAt part<0 then 0 else 12593+aloneAt part
def consB(part:Int):Bool:=!decide (aloneAt part<0)
def signJ(n:Int):Int:=
 let i:=ini (n/1024%32);let m:=med (n/32%32);let f:=fin (n%32)
 if n<32768∨iniB (n/1024%32)=false∨medB (n/32%32)=false∨finB (n%32)=false then 0
 else if i ≠ -1∧m ≠ -1 then syl i m f
 else if i = -1∧m ≠ -1∧f=0 then 12623+m
 else if i ≠ -1∧m = -1∧f=0 then cons (65+i)
 else if i = -1∧m = -1∧f≠0 then cons (97+f)
 else 0
def signJB(n:Int):Bool:=!decide (signJ n=0)
end Go.Proofs.YtagjkmkmphamoaaGreatDoor
namespace Go.Proofs.YtagjkmkmphamoaaGreatDoor
open Go.RowKit
theorem bt{w a b:World}(h:Below w.heap.size w a)(k:Below a.heap.size a b):Below w.heap.size w b:=h.trans (k.mono h.size)
theorem bal{w a:World}(h:Below w.heap.size w a)(o:Obj):Below w.heap.size w (a.alloc o):=h.alloc h.size o
theorem bdn{w a:World}(h:Below w.heap.size w a)(n:Nat):Below w.heap.size w (a.drewN n):=h.trans ⟨rfl,rfl,rfl,Nat.le_refl _,fun _ _=>rfl⟩
theorem jd2{w:World}{b o:Nat}{v:Value}(h:w.cell? ⟨b,o,none⟩=some v):b<w.heap.size:=by
 rcases Nat.lt_or_ge b w.heap.size with h'|h'
 · exact h'
 · simp[World.cell?,Array.getElem?_eq_none h']at h
theorem kc{w w':World}{b o:Nat}{v:Value}(hb:Below w.heap.size w w')(h:w.cell? ⟨b,o,none⟩=some v):w'.cell? ⟨b,o,none⟩=some v:=
 (hb.cell (p:=⟨b,o,none⟩) (jd2 h)).trans h
theorem kf{w w':World}{b o:Nat}{v:Value}(hb:Below w.heap.size w w')(h:w.cell? ⟨b,o,none⟩=some v)(hf:w.frozen? ⟨b,o,none⟩=false):w'.frozen? ⟨b,o,none⟩=false:=
 (hb.frozen (p:=⟨b,o,none⟩) (jd2 h)).trans hf
def Live(w:World)(b o:Nat)(v:Value):Prop:=w.cell? ⟨b,o,none⟩=some v∧w.frozen? ⟨b,o,none⟩=false
theorem Live.keep{w w':World}{b o:Nat}{v:Value}(h:Live w b o v)(hb:Below w.heap.size w w'):Live w' b o v:=⟨kc hb h.1,kf hb h.1 h.2⟩
theorem Live.lt{w:World}{b o:Nat}{v:Value}(h:Live w b o v):b<w.heap.size:=jd2 h.1
theorem Live.fresh(w:World)(c:Array Value)(t:TypeId)(i:Nat)(v:Value)(h:c[i]?=some v):Live (w.alloc (.cells c t)) w.heap.size i v:=
 ⟨by rw[World.cell?_alloc_new];exact h,World.frozen?_alloc_at _ _ _ _ rfl⟩
theorem Live.alloc{w:World}{b o:Nat}{v:Value}(h:Live w b o v)(x:Obj):Live (w.alloc x) b o v:=h.keep ((Below.refl _ _).alloc (Nat.le_refl _) x)
theorem Live.drew{w:World}{b o:Nat}{v:Value}(h:Live w b o v):Live w.drew b o v:=h.keep (Below.refl _ _).drew
theorem Live.drewN{w:World}{b o:Nat}{v:Value}(h:Live w b o v)(n:Nat):Live (w.drewN n) b o v:=h.keep (bdn (Below.refl _ _) n)
def bcells(l:List UInt8):List Value:=l.map fun b=>Value.int .u8 (b.toNat:Int)
theorem jj4(l:List UInt8):(bcells l).length=l.length:=by simp[bcells]
theorem jj5(l m:List UInt8):bcells (l++m)=bcells l++bcells m:=by simp[bcells]
theorem jf7{P:Program}{w:World}{base:Nat}{e:TypeId}{v:Value}{n:Nat}{l:List UInt8}(src dst:TypeId)
 (hs:P.underlying src=some (.slice e)) (he:P.underlying e=some (.int .u8)) (hd:P.underlying dst=some .string)
 (hown:w.ownsRow base e 1 v n (bcells l)):(convert src dst v).run P w=.ok (.string ⟨l.toArray⟩) w:=by
 have hlen:l.length=n:=by have:=hown.1;rw[jj4]at this;omega
 rcases hown.2 with⟨rfl,rfl⟩|⟨g,cap,cur,rfl,hg,hh,hnc,hcm,hcs,htk⟩
 · have:l = []:=List.eq_nil_of_length_eq_zero hlen
   subst this;exact Lib.run_convert_nil_bytes w src dst e 0 hs he hd
 · subst hlen
   refine run_convert_bytes_back w src dst e ⟨g,0,none⟩ cap l hs he hd ?_;intro j hj;have:=hown.cellAt j (by omega);have ea:(⟨g,0,none⟩:Addr).add j=⟨g,j,none⟩:=by
    by_cases h0:j=0
    · subst h0;rfl
    · simp[Addr.add,h0]
   rw[ea,this];simp[bcells,hj]
theorem jv3(l:List UInt8)(j:Nat)(b:UInt8):(bcells l).set j (.int .u8 (b.toNat:Int))=bcells (l.set j b):=by
 simp[bcells,List.map_set]
end Go.Proofs.YtagjkmkmphamoaaGreatDoor
namespace Go.Proofs.YtagjkmkmphamoaaGreatDoor
def dec(l:List UInt8):Nat×Nat:=Lib.decodeN l.length (l.getD 0 0).toNat (l.getD 1 0).toNat (l.getD 2 0).toNat (l.getD 3 0).toNat
theorem jx8(l:List UInt8)(i:Nat):(⟨l.toArray⟩:ByteArray).get! i=l.getD i 0:=by
 simp[ByteArray.get!,List.getD]
 rfl
theorem kw4(l:List UInt8)(i:Nat):Utf8.decode ⟨l.toArray⟩ i=dec (l.drop i):=by
 rw[Lib.decode_at,jx8,jx8,jx8,jx8];unfold dec;have hs:(⟨l.toArray⟩:ByteArray).size=l.length:=by simp[ByteArray.size]
 rw[hs];simp[List.getD,List.getElem?_drop]
theorem jz1(n b0 b1 b2 b3:Nat):Lib.decodeN n b0 b1 b2 b3=(65533,1) ∨
 (b0<128∧Lib.decodeN n b0 b1 b2 b3=(b0,1))∨((Lib.decodeN n b0 b1 b2 b3).2=2∧1<n)∨((Lib.decodeN n b0 b1 b2 b3).2=3∧2<n)∨((Lib.decodeN n b0 b1 b2 b3).2=4∧3<n):=by
 unfold Lib.decodeN
 repeat' split
 all_goals simp_all
theorem jg2(l:List UInt8):1≤(dec l).2∧(dec l).2≤4:=by
 unfold dec;rcases jz1 l.length (l.getD 0 0).toNat (l.getD 1 0).toNat (l.getD 2 0).toNat (l.getD 3 0).toNat with h|⟨_,h⟩|⟨h,_⟩|⟨h,_⟩|⟨h,_⟩
 all_goals (rw[h];omega)
theorem jz3(l:List UInt8)(h:l ≠ []):(dec l).2≤l.length:=by
 have:0<l.length:=List.length_pos_iff.2 h;unfold dec;rcases jz1 l.length (l.getD 0 0).toNat (l.getD 1 0).toNat (l.getD 2 0).toNat (l.getD 3 0).toNat with h|⟨_,h⟩|⟨h,_⟩|⟨h,_⟩|⟨h,_⟩
 all_goals (rw[h];omega)
def badDec(l:List UInt8):Bool:=decide ((dec l).1=65533)&&decide ((dec l).2≤1)
theorem jz2(l:List UInt8):(dec l).1<1114112:=by
 unfold dec Lib.decodeN
 repeat' split
 all_goals omega
def scanF:Nat→List UInt8→Nat→Nat→Nat×Option Nat
 | 0,_,_,n=>(n,none)
 | f+1,l,at_,n=>if l = []then(n,none)else if badDec l then(0,some at_)else scanF f (l.drop (dec l).2) (at_+(dec l).2) (n+1)
def scanL(l:List UInt8):Nat×Option Nat:=scanF l.length l 0 0
theorem js9(f:Nat)(l:List UInt8)(at_ n:Nat)(hl:l ≠ [])(hb:badDec l=false):scanF (f+1) l at_ n=scanF f (l.drop (dec l).2) (at_+(dec l).2) (n+1):=by
 rw[scanF,if_neg hl,hb];rfl
theorem kk1(f:Nat)(l:List UInt8)(at_ n:Nat)(hl:l ≠ [])(hb:badDec l=true):scanF (f+1) l at_ n=(0,some at_):=by
 rw[scanF,if_neg hl,hb];rfl
theorem kk0(f at_ n:Nat):scanF f [] at_ n=(n,none):=by cases f<;>rfl
theorem jh6(s:ByteArray)(a:Nat):(s.extract a s.size).data.toList=s.data.toList.drop a:=by
 rw[Lib.extract_data];apply List.take_of_length_le;simp
theorem js2(s:ByteArray):(⟨s.data.toList.toArray⟩:ByteArray)=s:=by
 cases s;simp
abbrev bl(s:ByteArray):List UInt8:=s.data.toList
theorem jb1(s:ByteArray):(bl s).length=s.size:=by simp[bl]
abbrev Tok:=List UInt8→Option (List UInt8×Nat)
def runT(tok:Tok):Nat→List UInt8→Nat→List UInt8→List UInt8×Option Nat
 | 0,_,_,acc=>(acc,none)
 | f+1,l,at_,acc=>if l = []then(acc,none)else match tok l with
  | none=>([],some at_)
  | some (t,k)=>runT tok f (l.drop k) (at_+k) (acc++t)
def decT(tok:Tok)(l:List UInt8):List UInt8×Option Nat:=runT tok l.length l 0 []
structure Near (tok:Tok):Prop where
 pos:∀l t k,tok l=some (t,k)→1≤k∧k≤l.length
 more:∀l m t k,tok l=some (t,k)→tok (l++m)=some (t,k)
theorem qn0(n n' b0 b1 b2 b3 c1 c2 c3:Nat)(h1:1<n→c1=b1)(h2:2<n→c2=b2)(h3:3<n→c3=b3)(hn:n≤n')
 (hg:¬(Lib.decodeN n b0 b1 b2 b3=(65533,1))):Lib.decodeN n' b0 c1 c2 c3=Lib.decodeN n b0 b1 b2 b3:=by
 by_cases a0:b0<128
 · simp only[Lib.decodeN,if_pos a0]
 by_cases a1:b0/32=6∧(1<n∧b1/64=2)
 · have:=h1 a1.2.1
   subst this;have a1':b0/32=6∧(1<n'∧c1/64=2):=⟨a1.1,by omega,a1.2.2⟩;simp only[Lib.decodeN,if_neg a0,if_pos a1,if_pos a1']
 by_cases a2:b0/16=14∧(1<n∧b1/64=2)∧(2<n∧b2/64=2)
 · have e1:=h1 a2.2.1.1
   have e2:=h2 a2.2.2.1;subst e1 e2;have a1':¬(b0/32=6∧(1<n'∧c1/64=2)):=by omega
   have a2':b0/16=14∧(1<n'∧c1/64=2)∧(2<n'∧c2/64=2):=⟨a2.1,⟨by omega,a2.2.1.2⟩,by omega,a2.2.2.2⟩;simp only[Lib.decodeN,if_neg a0,if_neg a1,if_pos a2,if_neg a1',if_pos a2']
 by_cases a3:b0/8=30∧(1<n∧b1/64=2)∧(2<n∧b2/64=2)∧(3<n∧b3/64=2)
 · have e1:=h1 a3.2.1.1
   have e2:=h2 a3.2.2.1.1;have e3:=h3 a3.2.2.2.1;subst e1 e2 e3;have a1':¬(b0/32=6∧(1<n'∧c1/64=2)):=by omega
   have a2':¬(b0/16=14∧(1<n'∧c1/64=2)∧(2<n'∧c2/64=2)):=by omega
   have a3':b0/8=30∧(1<n'∧c1/64=2)∧(2<n'∧c2/64=2)∧(3<n'∧c3/64=2):=⟨a3.1,⟨by omega,a3.2.1.2⟩,⟨by omega,a3.2.2.1.2⟩,by omega,a3.2.2.2.2⟩;simp only[Lib.decodeN,if_neg a0,if_neg a1,if_neg a2,if_pos a3,if_neg a1',if_neg a2',if_pos a3']
 · exact absurd (by simp only[Lib.decodeN,if_neg a0,if_neg a1,if_neg a2,if_neg a3]) hg
theorem qt9(l:List UInt8):badDec l=true↔dec l=(65533,1):=by
 unfold badDec;have:=jg2 l;rcases h:dec l with⟨a,b⟩
 rw[h]at this;simp only[Bool.and_eq_true,decide_eq_true_eq,Prod.mk.injEq]
 constructor
 · intro x;omega
 · intro x;omega
theorem dec_more(l m:List UInt8)(h:badDec l=false)(hne:l ≠ []):dec (l++m)=dec l:=by
 have hlen:0<l.length:=List.length_pos_iff.2 hne;have g:∀i,i<l.length→(l++m).getD i 0=l.getD i 0:=by
  intro i hi;simp[List.getD,List.getElem?_append,hi]
 have hb:¬dec l=(65533,1):=fun e=>by rw[(qt9 l).2 e]at h;cases h
 unfold dec at hb ⊢;rw[g 0 hlen];exact qn0 _ _ _ _ _ _ _ _ _ (fun hi=>by rw[g 1 hi]) (fun hi=>by rw[g 2 hi]) (fun hi=>by rw[g 3 hi]) (by simp) hb
def tokU:Tok:=fun l=>if l = []∨badDec l=true then none else some (l.take (dec l).2,(dec l).2)
theorem near_U:Near tokU:=by
 constructor
 · intro l t k h
   unfold tokU at h;split at h
   · cases h
   · rename_i c
     simp only[Option.some.injEq,Prod.mk.injEq]at h;have:=jg2 l;have:=jz3 l (fun e=>c (Or.inl e));omega
 · intro l m t k h
   unfold tokU at h ⊢;split at h
   · cases h
   · rename_i c
     have hne:l ≠ []:=fun e=>c (Or.inl e)
     have hb:badDec l=false:=by cases e:badDec l<;>simp[e]at c ⊢
     have hm:=dec_more l m hb hne;have hb':badDec (l++m)=false:=by unfold badDec at hb ⊢;rw[hm];exact hb
     rw[if_neg (by simp[hb',hne]),hm];simp only[Option.some.injEq,Prod.mk.injEq]at h ⊢;refine⟨?_,h.2⟩;rw[List.take_append_of_le_length (jz3 l hne)];exact h.1
def tokS(sg:UInt8→Option (List UInt8)):Tok:=fun l=>match l with
 | []=>none
 | b::_=>(sg b).map fun t=>(t,1)
def tokD(sg:UInt8→UInt8→List UInt8):Tok:=fun l=>match l with
 | []=>none
 | [b]=>if b<128 then some ([b],1)else none
 | b::c::_=>if b<128 then some ([b],1)else if sg b c = []then none else some (sg b c,2)
def decU(l:List UInt8):List UInt8×Option Nat:=match(scanL l).2 with
 | none=>(l,none)
 | some k=>([],some k)
theorem runU:∀(f:Nat) (l:List UInt8) (at_ n:Nat) (acc:List UInt8),l.length≤f →
 runT tokU f l at_ acc=match(scanF f l at_ n).2 with
  | none=>(acc++l,none)
  | some k=>([],some k):=by
 intro f
 induction f with
 | zero=>
  intro l at_ n acc hf;have:l = []:=List.eq_nil_of_length_eq_zero (by omega);subst this;simp[runT,scanF]
 | succ f ih=>
  intro l at_ n acc hf;by_cases hl:l = []
  · subst hl
    simp[runT,scanF]
  · have hd:=jg2 l
    have hle:=jz3 l hl;cases hb:badDec l with
    | true=>
     rw[kk1 f l at_ n hl hb,runT,if_neg hl];simp[tokU,hb]
    | false=>
     rw[js9 f l at_ n hl hb,runT,if_neg hl];have ht:tokU l=some (l.take (dec l).2,(dec l).2):=by unfold tokU;rw[if_neg (by simp[hl,hb])]
     rw[ht];simp only;rw[ih _ _ (n+1) _ (by rw[List.length_drop];omega)];rw[List.append_assoc,List.take_append_drop]
theorem decT_U(l:List UInt8):decT tokU l=decU l:=by
 unfold decT decU scanL;rw[runU l.length l 0 0 [] (Nat.le_refl _)];simp
end Go.Proofs.YtagjkmkmphamoaaGreatDoor
