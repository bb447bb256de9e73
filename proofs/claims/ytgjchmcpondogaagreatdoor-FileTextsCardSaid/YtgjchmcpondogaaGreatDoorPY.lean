/- PY -/
import Derived.Test.YtgjchmcpondogaaGreatDoorPX
set_option linter.all false
set_option maxRecDepth 100000
set_option maxHeartbeats 40000000
namespace Go.Proofs.YtgjchmcpondogaaGreatDoor
open Go Go.Rf Go.RowKit Go.Proofs.Tryz
theorem infoTr(k:Int)(v:Value)(z:Int):(Tryz.prog.info? 71).map (·.size)=some (treeA k v z).size:=by show _=some 25;kernel_rfl
theorem yGf(t:ByteArray)(b:Bool):∃s f,ptR t b=.tuple #[.string s,.agg #[.int .i64 f,.int .i64 0]]:=by
 unfold ptR;split
 · exact⟨_,_,rfl⟩
 · split<;>exact⟨_,_,rfl⟩
theorem y5y(k:Nat)(H8:4≤k)(H7:k<8)(v:Value)(z:Int)(l l0:List Pc)(w:World)(hG:GW w)(H5:Row w v l.length (pcC l))(t:ByteArray)(ht:bl t=whL l)(hs:t.size≤999990)(hl:l.length≤10000000)(H6:l0.length≤10000000)(hx:txM k t=.inl l0)(hc:l=l0∨l.length≠l0.length):
 Calls prog 16 #[.agg (treeA k v z)] w fun e w'=>e=.returned (ptR t (decide (l.length=l0.length)))∧Below w.heap.size w w':=by
 obtain⟨W,hW,C⟩:=yAO w (treeA k v z) v l H5 hG;have kp:=yDv k H8 H7 v z l l0 W C.gw C.row t ht hs hl H6 hx hc;obtain⟨s,f,hf⟩:=yGf t (decide (l.length=l0.length));rw[hf]at kp ⊢;obtain⟨K,hK⟩:∃K:Int,K=(k:Int):=⟨_,rfl⟩;rw[←hK]at kp hW C ⊢;have c0:=C.cell 0 (.int .i64 K) rfl;have KP:=z7 kp;have KW:=z7 hW;have KC:=z7 C;clear kp hf hx hc ht H5 hG hl H6 hs hW C;rcases(by omega:K=4∨K=5∨K=6∨K=7)with rfl|rfl|rfl|rfl
 all_goals (
  clear H8 H7 hK
  go_enter func16,ntmps16
  go_upto_region 1 with fail
  rw[←KW.out]
  go_wp2_with (first
   | (refine wpList_load_row rfl 71 _ rfl w.heap.size rfl 71 _ (0,0) _ KC.out.bx underlying71 rfl (infoTr _ v z) ?_)
   | (go_at_call 41;refine(KP.out).mono ?_;rintro e1 w1 ⟨rfl,H9⟩;have C1:=KC.out.bel H9;obtain⟨r0,r1,r2,r3⟩:=C1.ret))
  refine bodyPost_ret (v:=.tuple #[.string s,.agg #[.int .i64 f,.int .i64 0]]) (by simp[results,Tryz.results16,go_sem,r0,r1,r2,r3]) rfl ?_;exact⟨rfl,y7t C1.gg _ _⟩)
def cloL:List UInt8:=[93]
def sufB(s:ByteArray):Bool:=(s.extract (s.size-1) s.size).data.toList==cloL
theorem hsuf_any(s:ByteArray)(w:World)(hs:s.size≤9223372036854775807):Calls prog 413 #[.string s,.string ⟨#[93]⟩] w fun e w'=>e=.returned (.bool (sufB s))∧w'=w:=by
 by_cases h:1≤s.size
 · have hq:((s.extract (s.size-1) s.size).toList == [93])=sufB s:=by rw[ByteArray.toList_eq];rfl
   have i1:IntKind.i64.wrap ((s.size:Int)-1)=(s.size:Int)-1:=wi64 _ (by omega) (by omega);have i2:((s.size:Int)-1).toNat=s.size-1:=by omega
   have i3:(0:Int)≤(s.size:Int)-1:=by omega
   have i4:(s.size:Int)-1≤(s.size:Int):=by omega
   have i5:(1:Int)≤(s.size:Int):=by omega
   go_enter func413,ntmps413
   go_wp2_with fail
   go_ret
   exact⟨by first|rfl|rw[hq],rfl⟩
 · have hz:sufB s=false:=by
    have:s=⟨#[]⟩:=by apply ByteArray.ext;apply Array.eq_empty_of_size_eq_zero;show s.size=0;omega
    rw[this];rfl
   rw[hz];have i5:¬(1:Int)≤(s.size:Int):=by omega
   go_enter func413,ntmps413
   go_wp2_with fail
   go_ret
   exact⟨rfl,rfl⟩
theorem csuf_any(s:ByteArray)(w:World)(hs:s.size≤9223372036854775807):Calls prog 371 #[.string s,.string ⟨#[93]⟩] w fun e w'=>e=.returned (.tuple #[.string (if sufB s=true then s.extract 0 (s.size-1)else s),.bool (sufB s)])∧w'=w:=by
 have k:=fun w'=>hsuf_any s w' hs
 cases hb:sufB s with
 | true=>
  have h1:1≤s.size:=by
   rcases Nat.lt_or_ge s.size 1 with h|h
   · have:s=⟨#[]⟩:=by apply ByteArray.ext;apply Array.eq_empty_of_size_eq_zero;show s.size=0;omega
     rw[this]at hb;cases hb
   · exact h
  rw[hb]at k;have K:=z7 k;have i1:IntKind.i64.wrap ((s.size:Int)-1)=(s.size:Int)-1:=wi64 _ (by omega) (by omega);have i2:((s.size:Int)-1).toNat=s.size-1:=by omega
  have i3:(0:Int)≤(s.size:Int)-1:=by omega
  have i4:(s.size:Int)-1≤(s.size:Int):=by omega
  rw[if_pos rfl];clear k hb
  go_enter func371,ntmps371
  go_wp2_with (go_at_call 413;refine(K.out _).mono ?_;rintro e w1 ⟨rfl,rfl⟩)
  go_ret2
  exact⟨rfl,rfl⟩
 | false=>
  rw[hb]at k;have K:=z7 k;rw[if_neg (by decide)];clear k hb
  go_enter func371,ntmps371
  go_wp2_with (go_at_call 413;refine(K.out _).mono ?_;rintro e w1 ⟨rfl,rfl⟩)
  go_ret2
  exact⟨rfl,rfl⟩
theorem yCZ(s:ByteArray)(w:World)(hG:GW w)(hs:s.size≤9223372036854775807):Calls prog 306 #[.string s,.string ⟨⟨cloL⟩⟩] w fun e w'=>e=.returned (.tuple #[.string (if sufB s=true then s.extract 0 (s.size-1)else s),.bool (sufB s)])∧Below w.heap.size w w':=by
 show Calls prog 306 #[.string s,.string ⟨#[93]⟩] w _;obtain⟨A,hA⟩:∃A,A=(if sufB s=true then s.extract 0 (s.size-1)else s):=⟨_,rfl⟩;have k:=fun w'=>csuf_any s w' hs
 rw[←hA]at k ⊢;generalize sufB s=q at k ⊢;have K:=z7 k;clear k hA
 go_enter func306,ntmps306
 go_wp2_with (go_at_call 371;refine(K.out _).mono ?_;rintro e w1 ⟨rfl,rfl⟩)
 go_ret2
 exact⟨rfl,z8⟩
def yCJ(b:ByteArray)(p:Nat×Nat×Nat):Option ByteArray:=match y36 b lrcP p with
 | some r=>if sufB r=true then some (r.extract 0 (r.size-1))else none
 | none=>none
end Go.Proofs.YtgjchmcpondogaaGreatDoor
namespace Go.Proofs.YtgjchmcpondogaaGreatDoor
open Go.RowKit Go.Proofs.Tryz
theorem yGB(l p:List UInt8):(Lib.trimPrefix l p).length≤l.length:=by
 unfold Lib.trimPrefix;split
 · rw[List.length_drop];omega
 · exact zA
theorem yEl(b:ByteArray)(w:World)(hG:GW w)(hs:b.size≤1000000):Calls prog 216 #[.string b] w fun e w'=>e=.returned (.string (y2T (yCJ b) (lnF (bl b) 0)))∧Below w.heap.size w w':=by
 obtain⟨L,hL⟩:∃L,L=lnF (bl b) 0:=⟨_,rfl⟩;have k1:=y5G b w hs;have Hf:=y1X b;rw[←hL]at k1 Hf ⊢;clear hL;have K1:=z7 k1;have K2:=z7 (fun(p:Nat×Nat×Nat) w=>yA3 (b.extract p.1 p.2.1) lrcP w);clear k1
 go_enter func216,ntmps216
 go_wp2_with (go_at_call 304;(with_reducible refine(K1.out).mono ?_);rintro e w1 ⟨v,rfl,H6,Hd⟩;obtain⟨a1,c1,rfl⟩:=zL H6)
 have HR:=z7 (zm H6);have H8:=z7 Hd;clear H6 Hd
 go_loopw [12] (fun iv wr=>∃k:Nat,iv=.int .i64 (k:Int)∧k≤L.length∧Hid (y2T (yCJ b) L=y2T (yCJ b) (L.drop k))∧Hid (Below w1.heap.size w1 wr)) (fun iv _=>L.length-(intOf iv).toNat)
 case atStart=>exact⟨0,rfl,zD,z7 rfl,z7 z8⟩
 case round=>
  obtain⟨k,rfl,hk,HD,HB⟩:=hrel;by_cases He:k<L.length
  · obtain⟨p,hp⟩:=zM L k He
    obtain⟨h1,h2⟩:=y3Y (yCJ b) L k p hp;have H5:=HR.out.keep HB.out;obtain⟨g,o,c',e,_⟩:=y0D H5 _ _ (y0H b L k p hp 0 _ rfl);simp only[Value.slice.injEq]at e;obtain⟨rfl,_,rfl⟩:=e;obtain⟨q0,q1,q2⟩:=y1T H5 k p hp;have k2:=K2.out p;unfold yCJ y36 at h1 h2;have HG:=hG.bel (H8.out.trans (HB.out.mono H8.out.size));have Hc:=z7 (H8.out.trans (HB.out.mono H8.out.size));obtain⟨S,hS⟩:∃S,S=b.extract p.1 p.2.1:=⟨_,rfl⟩;obtain⟨U,hU⟩:∃U,U=b.extract p.2.1 p.2.2:=⟨_,rfl⟩;obtain⟨R,hR⟩:∃R:ByteArray,R=⟨(Lib.trimPrefix (b.extract p.1 p.2.1).data.toList lrcP).toArray⟩:=⟨_,rfl⟩;have H9:(⟨(Lib.trimPrefix (b.extract p.1 p.2.1).data.toList lrcP).toArray⟩:ByteArray).size≤9223372036854775807:=by
     have h1:=yGB (b.extract p.1 p.2.1).data.toList lrcP;have h2:(b.extract p.1 p.2.1).data.toList.length≤b.size:=by show(b.extract p.1 p.2.1).size≤_;rw[zG];omega
     show(Lib.trimPrefix (b.extract p.1 p.2.1).data.toList lrcP).length≤_;omega
    rw[←hS]at q0;rw[←hU]at q1;rw[←hR]at h1 h2 k2;rw[←hS]at h1 h2 k2;cases hc:Lib.hasPrefix S.data.toList lrcP with
    | true=>
     rw[hc]at h1 h2 k2;rw[if_pos rfl]at h1 h2;simp only at h1 h2;have k3:=fun w hG=>yCZ R w hG (by rw[hR];exact H9)
     cases hf:sufB R with
     | true=>
      rw[hf]at h1 k3;rw[if_pos rfl]at h1;have hd:=h1 _ rfl;simp only[if_true]at k3;obtain⟨V,hV⟩:∃V,V=R.extract 0 (R.size-1):=⟨_,rfl⟩;rw[←hV]at hd k3;have H7:=z7 (HD.out.trans hd);have K3:=z7 k2;have K4:=z7 k3;have Hb:=z7 HG;clear h1 h2 k2 hd H5 hp hS hU hR hc hf k3 hV HG H9
      go_wp2_with (first
       | (go_at_call 305;refine(K3.out _).mono ?_;rintro e w2 ⟨rfl,rfl⟩)
       | (go_at_call 306;refine(K4.out _ (Hb.out.bel (bal z8 _))).mono ?_;rintro e w3 ⟨rfl,Ha⟩))
      go_ret
      exact⟨by rw[H7.out];rfl,bt (bal Hc.out _) Ha⟩
     | false=>
      rw[hf]at h2 k3;rw[if_neg (by decide)]at h2;have hd:=h2 rfl;simp only[Bool.false_eq_true,if_false]at k3;have H7:=z7 (HD.out.trans hd);have K3:=z7 k2;have K4:=z7 k3;have Hb:=z7 HG;clear h1 h2 k2 hd H5 hp hS hU hR hc hf k3 HG H9
      go_wp2_with (first
       | (go_at_call 305;refine(K3.out _).mono ?_;rintro e w2 ⟨rfl,rfl⟩)
       | (go_at_call 306;refine(K4.out _ (Hb.out.bel (bal z8 _))).mono ?_;rintro e w3 ⟨rfl,Ha⟩))
      go_roundw
      case rel=>exact⟨k+1,by first|omega|go_num,by omega,H7,z7 (bt (bal HB.out _) Ha)⟩
      case measure=>simp[intOf];omega
    | false=>
     rw[hc]at h2 k2;have hd:=h2 rfl;have H7:=z7 (HD.out.trans hd);have K3:=z7 k2;clear h1 h2 k2 hd H5 hp hS hU hR hc HG H9
     go_wp2_with (go_at_call 305;refine(K3.out _).mono ?_;rintro e w2 ⟨rfl,rfl⟩)
     go_roundw
     case rel=>exact⟨k+1,by first|omega|go_num,by omega,H7,z7 (bal HB.out _)⟩
     case measure=>simp[intOf];omega
  · have hd:=y5X (yCJ b) L k (by omega)
    have H7:=z7 (HD.out.trans hd);have Hc:=z7 (H8.out.trans (HB.out.mono H8.out.size));clear hd
    go_wp2
    go_ret
    exact⟨by rw[H7.out];rfl,Hc.out⟩
end Go.Proofs.YtgjchmcpondogaaGreatDoor
namespace Go.Proofs.YtgjchmcpondogaaGreatDoor
open Go Go.Rf Go.RowKit Go.Proofs.Tryz
theorem badHi(x:UInt8)(r:List UInt8)(h:248≤x.toNat):y0Z (x::r)=true:=by
 rw[y5Y];have e0:((x::r).getD 0 0).toNat=x.toNat:=rfl;have hx:=x.toNat_lt;unfold dec;rw[e0];unfold Lib.decodeN;rw[if_neg (by omega),if_neg (by omega),if_neg (by omega),if_neg (by omega)]
theorem yF3(l:List UInt8)(hg:(scanL l).2=none):∀x r,l=x::r→x.toNat<248:=by
 rintro x r rfl;rcases Nat.lt_or_ge x.toNat 248 with h|h
 · exact h
 · have:=badHi x r h
   unfold scanL at hg;rw[List.length_cons,y4q _ _ _ _ (List.cons_ne_nil _ _) this]at hg;cases hg
theorem markZero(l:List UInt8)(hb:Lib.hasPrefix l [239,187,191]=false)(hg:(scanL l).2=none):y8L l=(0,0):=by
 have no:∀(a:UInt8) (p:List UInt8),248≤a.toNat→Lib.hasPrefix l (a::p)=false:=fun a p ha=>by
  cases hc:Lib.hasPrefix l (a::p)with
  | false=>rfl
  | true=>
   cases l with
   | nil=>cases hc
   | cons x r=>
    have h1:=yF3 _ hg x r rfl;simp[Lib.hasPrefix,List.isPrefixOf]at hc;have h2:a=x:=hc.1;subst h2;omega
 unfold y8L;rw[hb,no 255 _ (by decide),no 254 _ (by decide)]
 rfl
def prB(t:ByteArray):ByteArray:=if Lib.hasPrefix (bl t) [239,187,191]=true then bomB++t else t
theorem yGi(t:ByteArray):(prB t).size≤t.size+3:=by
 unfold prB;split
 · rw[ByteArray.size_append];show 3+t.size≤_;omega
 · omega
theorem yGj(t:ByteArray)(hv:(scanL (bl t)).2=none):((y8L (bl (prB t))=(7,3)∧3≤(prB t).size∧(prB t).extract 3 (prB t).size=t)∨(y8L (bl (prB t))=(0,0)∧prB t=t)):=by
 unfold prB;cases hb:Lib.hasPrefix (bl t) [239,187,191]with
 | false=>exact .inr ⟨markZero _ hb hv,rfl⟩
 | true=>
  refine .inl ⟨?_,by rw[if_pos rfl,ByteArray.size_append];show 3≤3+t.size;omega,?_⟩
  · rw[if_pos rfl]
    have e:bl (bomB++t)=239::187::191::bl t:=by simp[bl,bomB]
    rw[e];unfold y8L;rw[if_pos (by simp[Lib.hasPrefix,List.isPrefixOf])]
  · rw[if_pos rfl]
    apply ByteArray.ext;apply Array.ext';rw[zx];simp[bomB]
theorem yC0(b d:ByteArray)(z fb bu:Int)(g:Bool)(w:World)(hT:TW w)(hb:b.size≤1048576)(hv:(scanL (bl b)).2=none):
 Calls prog 125 #[.string b,.string d,.agg #[.int .i64 z,.int .i64 fb,.bool g,.int .i64 bu]] w fun e w'=>e=.returned (.int .i64 7)∧Below w.heap.size w w':=by
 have k1:=y7p b (w.alloc (.cells #[.int .i64 z,.int .i64 fb,.bool g,.int .i64 bu] 44)) (hT.bel (bal z8 _)) (by omega);rw[hv]at k1;have K1:=z7 k1;clear k1
 go_enter func125,ntmps125
 go_wp2_with (go_at_call 97;refine(K1.out).mono ?_;rintro e w1 ⟨rfl,H5⟩)
 go_ret
 exact⟨rfl,bt (bal z8 _) H5⟩
theorem yJE(b:ByteArray)(w:World)(hT:TW w)(hb:b.size≤1048576)(hv:(scanL (bl b)).2=none):
 Calls prog 127 #[.int .i64 7,.string b] w fun e w'=>e=.returned (.tuple #[.string b,.agg #[.int .i64 0,.int .i64 0]])∧Below w.heap.size w w':=by
 have:=y8q b w hT (by omega);unfold CDecPost at this;rw[y1c 7 _ (by omega),yHm,yI0]at this;unfold decU at this;rw[hv]at this;rw[show(⟨(bl b).toArray⟩:ByteArray)=b from y1x b]at this;exact this
theorem y8i(k:Nat)(H7:4≤k)(H6:k<8)(b:ByteArray)(w:World)(hG:GW w)(hs:b.size≤1000000):Calls prog 126 #[.int .i64 k,.string b] w fun e w'=>(∃d,e=.returned (.string d))∧Below w.heap.size w w':=by
 have K1:=z7 (yFi b w hs);have K2:=z7 (yDf b w hs);have K3:=z7 (yEl b w hG hs);obtain⟨K,hK⟩:∃K:Int,K=(k:Int):=⟨_,rfl⟩;rw[←hK];rcases(by omega:K=4∨K=5∨K=6∨K=7)with rfl|rfl|rfl|rfl
 all_goals (
  clear H7 H6 hK
  go_enter func126,ntmps126
  go_wp2_with (first
   | (go_at_call 214;refine(K1.out).mono ?_;rintro e w1 ⟨rfl,H5⟩)
   | (go_at_call 215;refine(K2.out).mono ?_;rintro e w1 ⟨rfl,H5⟩)
   | (go_at_call 216;refine(K3.out).mono ?_;rintro e w1 ⟨rfl,H5⟩))
  go_ret
  exact⟨⟨_,rfl⟩,by first|exact H5|exact z8⟩)
abbrev opA(k:Int):Array Value:=#[.int .i64 k,.int .i64 0,.bool false,.int .i64 0]
abbrev faZ:Array Value:=#[.int .i64 0,.int .i64 0]
theorem y2e{P:Program}{fn:Func}{p q:Tmp}{t1 t2:TypeId}(h:fn.results=#[.cell p t1,.cell q t2])(tmps:Array Value)(w:World)(g1 g2:Nat)(e1 e2:TypeId)(c1 c2:Array Value)(f1 f2:Nat×Nat)(d1 d2:TypeDesc)
 (hp:tmps.getD p undef=.pointer (some ⟨g1,0,none⟩)) (hq:tmps.getD q undef=.pointer (some ⟨g2,0,none⟩)) (Hc:w.heap[g1]?=some (.cells c1 e1 f1)) (Hb:w.heap[g2]?=some (.cells c2 e2 f2))
 (H6:P.underlying t1=some d1) (He:(match d1 with | .struct _ | .array _ _=>true|_=>false)=true) (Ha:(P.info? t1).map (·.size)=some c1.size)
 (H5:P.underlying t2=some d2) (Hd:(match d2 with | .struct _ | .array _ _=>true|_=>false)=true) (H9:(P.info? t2).map (·.size)=some c2.size):
 (results fn tmps).run P w=.ok (.tuple #[.agg c1,.agg c2]) w:=by
 have H8:tmps[p]?.getD undef=.pointer (some ⟨g1,0,none⟩):=by simpa using hp
 have H7:tmps[q]?.getD undef=.pointer (some ⟨g2,0,none⟩):=by simpa using hq
 simp[results,h,H8,H7,asAddr,run_loadVar_row w g1 e1 t1 c1 f1 d1 Hc H6 He Ha,run_loadVar_row w g2 e2 t2 c2 f2 d2 Hb H5 Hd H9]
theorem y1D{w:World}{B e k n:Nat}{v:Value}{cs:List Value}(h:w.ownsRow B e k v n cs){p:Addr}(u:Value)(hp:p.block<B):(w.setCell p u).ownsRow B e k v n cs:=
 za h fun j hj=>Below.heap_setCell _ _ _ _ (by have:=(zd h j hj).1;omega)
theorem infoFa:(Tryz.prog.info? 37).map (·.size)=some faZ.size:=by show _=some 2;kernel_rfl
theorem y2c(k z:Int)(a:Option Addr)(n c:Nat):(treeA k (.slice a n c) z).all (·.oneCell')=true:=by kernel_rfl
theorem faOne:faZ.all (·.oneCell')=true:=by kernel_rfl
theorem zw{w:World}{B e k n g:Nat}{v:Value}{cs:List Value}(h:w.ownsRow B e k v n cs)(x:Array Value)(hp:g<B):(w.setRow g x).ownsRow B e k v n cs:=
 za h fun j hj=>setRow_other _ _ _ _ (by have:=(zd h j hj).1;omega)
structure FS (w:World) (k:Int) (wr:World):Prop where
 gg:Below w.heap.size w wr
 ob:wr.heap[w.heap.size]?=some (.cells (opA k) 44 (0,0))
 tr:wr.heap[w.heap.size+1]?=some (.cells (treeA 0 (.slice none 0 0) 0) 71 (0,0))
 rt:wr.heap[w.heap.size+2]?=some (.cells faZ 37 (0,0))
theorem FS.bel{w wr:World}{k:Int}(h:FS w k wr){w':World}(hb:Below wr.heap.size wr w'):FS w k w':=⟨bt h.gg hb,blkQ h.ob hb,blkQ h.tr hb,blkQ h.rt hb⟩
theorem FS.drew{w wr:World}{k:Int}(h:FS w k wr):FS w k wr.drew:=⟨h.gg.drew,h.ob,h.tr,h.rt⟩
theorem FS.big{w wr:World}{k:Int}(h:FS w k wr):w.heap.size+3≤wr.heap.size:=(Array.getElem?_eq_some_iff.1 h.rt).1
theorem FS.cell{w wr:World}{k:Int}(h:FS w k wr){p:Addr}(hp:w.heap.size+3≤p.block)(u:Value):FS w k (wr.setCell p u):=by
 have e:∀j,j<w.heap.size+3→(wr.setCell p u).heap[j]?=wr.heap[j]?:=fun j hj=>Below.heap_setCell _ _ _ _ (by omega)
 exact⟨h.gg.setCell (by omega) u,(e _ (by omega)).trans h.ob,(e _ (by omega)).trans h.tr,(e _ (by omega)).trans h.rt⟩
theorem FS.opt{w wr:World}{k:Int}(h:FS w k wr):wr.cell? ⟨w.heap.size,0,none⟩=some (.int .i64 k)∧wr.cell? ⟨w.heap.size,1,none⟩=some (.int .i64 0)∧wr.cell? ⟨w.heap.size,2,none⟩=some (.bool false)∧wr.cell? ⟨w.heap.size,3,none⟩=some (.int .i64 0):=
 ⟨(zN h.ob 0 _ rfl).1,(zN h.ob 1 _ rfl).1,(zN h.ob 2 _ rfl).1,(zN h.ob 3 _ rfl).1⟩
theorem yBE(w:World)(k:Int):∃W,W=((w.alloc (.cells (opA k) 44)).alloc (.cells (treeA 0 (.slice none 0 0) 0) 71)).alloc (.cells faZ 37)∧FS w k W:=by
 have H6:(w.alloc (.cells (opA k) 44)).heap.size=w.heap.size+1:=Y4 _ _;have H5:((w.alloc (.cells (opA k) 44)).alloc (.cells (treeA 0 (.slice none 0 0) 0) 71)).heap.size=w.heap.size+2:=by rw[Y4,H6]
 have hb:Below w.heap.size w (((w.alloc (.cells (opA k) 44)).alloc (.cells (treeA 0 (.slice none 0 0) 0) 71)).alloc (.cells faZ 37)):=bal (bal (bal z8 _) _) _;refine⟨_,rfl,hb,?_,?_,?_⟩
 · rw[heap_alloc_old _ _ (by rw[H5];omega),heap_alloc_old _ _ (by rw[H6];omega)];exact heap_alloc_new _ _
 · rw[heap_alloc_old _ _ (by rw[H5];omega),←H6];exact heap_alloc_new _ _
 · rw[←H5];exact heap_alloc_new _ _
def FReadP(l:List Pc)(kd:Int)(w:World)(e:Ending)(w':World):Prop:=∃u,e=.returned (.tuple #[.agg (treeA kd u 7),.agg faZ])∧w'.ownsRow w.heap.size 74 3 u l.length (pcC l)∧Below w.heap.size w w'
theorem y79(k:Nat)(Hd:4≤k)(Hc:k<8)(l:List Pc)(w:World)(hG:GW w)(t:ByteArray)(hv:(scanL (bl t)).2=none)(hs:t.size≤999990)(hx:txM k t=.inl l):
 Calls prog 46 #[.int .i64 k,.string (prB t),.agg (opA k)] w (FReadP l 0 w):=by
 obtain⟨W,hW,C⟩:=yBE w k;have Hf:=yGi t;have kp:∀wr,FS w k wr→Calls prog 98 #[.int .i64 k,.string t] wr fun e w'=>Below wr.heap.size wr w'∧∃u,e=.returned (.tuple #[u,.agg faZ])∧w'.ownsRow wr.heap.size 74 3 u l.length (pcC l):=fun wr h=>by
  refine(y5P k Hd Hc t wr (hG.bel h.gg) (by omega)).mono fun e w' hp=>?_
  unfold ParsP at hp;rw[hx]at hp;obtain⟨hb,⟨a,h1,_⟩|⟨l',u,h1,h2,h3⟩⟩:=hp
  · cases h1
  · cases h1
    exact⟨hb,u,h2,h3⟩
 have kb:=fun w=>y0x 0 0 w
 rw[show(!decide ((0:Int)=0))=false from rfl]at kb;have kc:∀wr,FS w k wr→Calls prog 127 #[.int .i64 7,.string t] wr fun e w'=>e=.returned (.tuple #[.string t,.agg faZ])∧Below wr.heap.size wr w':=fun wr h=>yJE t wr (hG.bel h.gg).tw (by omega) hv
 have kd:∀wr,FS w k wr→Calls prog 126 #[.int .i64 k,.string (prB t)] wr fun e w'=>(∃d,e=.returned (.string d))∧Below wr.heap.size wr w':=fun wr h=>y8i k Hd Hc (prB t) wr (hG.bel h.gg) (by omega)
 have km:=yH5 (prB t) W;have KP:=z7 kp;have KB:=z7 kb;have KC:=z7 kc;have KD:=z7 kd;have KW:=z7 hW;have He:=yGj t hv;have kr:prB t=t→∀wr d,FS w k wr→Calls prog 125 #[.string (prB t),.string d,.agg (opA k)] wr fun e w'=>e=.returned (.int .i64 7)∧Below wr.heap.size wr w':=fun hp wr d h=>yC0 (prB t) d k 0 0 false wr (hG.bel h.gg).tw (by omega) (by rw[hp];exact hv)
 generalize prB t=S at *;clear kp kb kc kd hW hx hv hG;rcases He with⟨hm,h3,he⟩|⟨hm,he⟩
 · rw[hm]at km
   have KM:=z7 km;have e0:(3:Int)≤(S.size:Int):=by omega
   clear km hm kr
   go_enter func46,ntmps46
   go_upto_region 1 with fail
   rw[←KW.out]
   go_upto_region 10 with(first
    | (go_at_call 124;refine(KM.out).mono ?_;rintro e1 w1 ⟨rfl,rfl⟩)
    | (go_at_call 127;refine(KC.out _ C).mono ?_;rintro e2 w2 ⟨rfl,H7⟩;have C2:=(C.bel H7).bel (bal z8 (.cells faZ 37));have H9:=(C.bel H7).big;have M0:=Live.fresh w2 faZ 37 0 _ rfl;have M1:=Live.fresh w2 faZ 37 1 _ rfl;have M0':=M0;obtain⟨m0,m0'⟩:=M0';have M1':=M1;obtain⟨m1,m1'⟩:=M1')
    | (go_at_call 13;refine(KB.out _).mono ?_;rintro e5 w5 ⟨rfl,Ha⟩;have C5:=((C4.cell (p:=⟨w2.heap.size,0,none⟩) H9 (.int .i64 0)).cell (p:=⟨w2.heap.size,1,none⟩) H9 (.int .i64 0)).bel Ha;have Hb:=zK (y1D (y1D hu (p:=⟨w2.heap.size,0,none⟩) (.int .i64 0) H8) (p:=⟨w2.heap.size,1,none⟩) (.int .i64 0) H8) Ha)
    | (go_at_call 13;refine(KB.out _).mono ?_;rintro e3 w3 ⟨rfl,H5⟩;have C3:=C2.bel H5;(have H8:w2.heap.size<w3.heap.size:=by have:=H5.size;rw[Y4]at this;exact this);have M03:=M0.keep H5;have M13:=M1.keep H5)
    | (go_at_call 98;refine(KP.out _ C3).mono ?_;rintro e4 w4 ⟨H6,u,rfl,hu⟩;obtain⟨ua,uc,rfl⟩:=zL hu;have C4:=C3.bel H6;obtain⟨n0,n0'⟩:=M03.keep H6;obtain⟨n1,n1'⟩:=M13.keep H6))
   go_wp2_with (first
    | (refine Go.wpList_store_row rfl 71 _ _ rfl (w.heap.size+1) (treeA 0 (.slice ua l.length uc) 7) rfl rfl 71 _ C5.tr (infoTr _ _ _) rfl (y2c _ _ _ _ _) ?_)
    | (refine Go.wpList_store_row rfl 37 _ _ rfl (w.heap.size+2) faZ rfl rfl 37 faZ ((setRow_other _ _ _ _ (by omega)).trans C5.rt) infoFa rfl faOne ?_))
   refine bodyPost_ret (y2e rfl _ _ (w.heap.size+1) (w.heap.size+2) 71 37 (treeA 0 (.slice ua l.length uc) 7) faZ (0,0) (0,0) _ _ rfl rfl ((setRow_other _ _ _ _ (by omega)).trans (setRow_heap _ _ _ _ _ _ C5.tr)) (setRow_heap _ _ _ _ _ _ ((setRow_other _ _ _ _ (by omega)).trans C5.rt)) underlying71 rfl (infoTr _ _ _) underlying37 rfl infoFa) rfl ?_;exact⟨_,rfl,zb (zw (zw Hb _ (by omega)) _ (by omega)) (by omega),below_setRow (below_setRow C5.gg _ (by omega) _) _ (by omega) _⟩
 · rw[hm]at km
   have KM:=z7 km;have kr2:=kr he;subst he;have KR:=z7 kr2;have KP:=KP;clear km hm kr kr2;have D:=C.drew;obtain⟨d0,d1,d2,d3⟩:=D.opt
   go_enter func46,ntmps46
   go_upto_region 1 with fail
   rw[←KW.out]
   go_upto_region 3 with(go_at_call 124;refine(KM.out).mono ?_;rintro e1 w1 ⟨rfl,rfl⟩)
   go_cut [8] (fun s8 wx=>s8=.int .i64 7∧FS w k wx)
   case first=>
    go_region_with (first
     | (go_at_call 126;go_loud  (refine(KD.out _ D).mono ?_);go_loud  (rintro e2 w2 ⟨⟨d,rfl⟩,H7⟩);go_loud  (have C2:=D.bel H7);go_loud  (obtain⟨d0,d1,d2,d3⟩:=C2.opt))
     | (go_at_call 125;go_loud  (refine(KR.out _ d C2).mono ?_);go_loud  (rintro e3 w3 ⟨rfl,H5⟩);go_loud  (have C3:=C2.bel H5)))
    all_goals (go_wp2_with fail;go_meet;exact⟨rfl,C3⟩)
   case rest=>
    obtain⟨rfl,C0⟩:=hcut;have he:S.extract 0 S.size=S:=by apply ByteArray.ext;apply Array.ext';rw[zx];rfl
    go_upto_region 10 with(first
     | (go_at_call 127;refine(KC.out _ C0).mono ?_;rintro e2 w2 ⟨rfl,H7⟩;have C2:=(C0.bel H7).bel (bal z8 (.cells faZ 37));have H9:=(C0.bel H7).big;have M0:=Live.fresh w2 faZ 37 0 _ rfl;have M1:=Live.fresh w2 faZ 37 1 _ rfl;have M0':=M0;obtain⟨m0,m0'⟩:=M0';have M1':=M1;obtain⟨m1,m1'⟩:=M1')
     | (go_at_call 13;refine(KB.out _).mono ?_;rintro e5 w5 ⟨rfl,Ha⟩;have C5:=((C4.cell (p:=⟨w2.heap.size,0,none⟩) H9 (.int .i64 0)).cell (p:=⟨w2.heap.size,1,none⟩) H9 (.int .i64 0)).bel Ha;have Hb:=zK (y1D (y1D hu (p:=⟨w2.heap.size,0,none⟩) (.int .i64 0) H8) (p:=⟨w2.heap.size,1,none⟩) (.int .i64 0) H8) Ha)
     | (go_at_call 13;refine(KB.out _).mono ?_;rintro e3 w3 ⟨rfl,H5⟩;have C3:=C2.bel H5;(have H8:w2.heap.size<w3.heap.size:=by have:=H5.size;rw[Y4]at this;exact this);have M03:=M0.keep H5;have M13:=M1.keep H5)
     | (go_at_call 98;refine(KP.out _ C3).mono ?_;rintro e4 w4 ⟨H6,u,rfl,hu⟩;obtain⟨ua,uc,rfl⟩:=zL hu;have C4:=C3.bel H6;obtain⟨n0,n0'⟩:=M03.keep H6;obtain⟨n1,n1'⟩:=M13.keep H6))
    go_wp2_with (first
     | (refine Go.wpList_store_row rfl 71 _ _ rfl (w.heap.size+1) (treeA 0 (.slice ua l.length uc) 7) rfl rfl 71 _ C5.tr (infoTr _ _ _) rfl (y2c _ _ _ _ _) ?_)
     | (refine Go.wpList_store_row rfl 37 _ _ rfl (w.heap.size+2) faZ rfl rfl 37 faZ ((setRow_other _ _ _ _ (by omega)).trans C5.rt) infoFa rfl faOne ?_))
    refine bodyPost_ret (y2e rfl _ _ (w.heap.size+1) (w.heap.size+2) 71 37 (treeA 0 (.slice ua l.length uc) 7) faZ (0,0) (0,0) _ _ rfl rfl ((setRow_other _ _ _ _ (by omega)).trans (setRow_heap _ _ _ _ _ _ C5.tr)) (setRow_heap _ _ _ _ _ _ ((setRow_other _ _ _ _ (by omega)).trans C5.rt)) underlying71 rfl (infoTr _ _ _) underlying37 rfl infoFa) rfl ?_;exact⟨_,rfl,zb (zw (zw Hb _ (by omega)) _ (by omega)) (by omega),below_setRow (below_setRow C5.gg _ (by omega) _) _ (by omega) _⟩
end Go.Proofs.YtgjchmcpondogaaGreatDoor
