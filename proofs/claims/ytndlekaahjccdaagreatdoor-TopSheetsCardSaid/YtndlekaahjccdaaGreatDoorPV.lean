/- PV -/
import Derived.Test.YtndlekaahjccdaaGreatDoorPU
set_option linter.all false
set_option maxRecDepth 100000
set_option maxHeartbeats 40000000
namespace Go.Proofs.YtndlekaahjccdaaGreatDoor
section
open Go.RowKit Go.Proofs.Tryz
def cueP:List UInt8:=[82,69,77,32,67,72,65,82,83,69,84,32]
def ssaP:List UInt8:=[67,104,97,114,115,101,116,58,32]
def lrcP:List UInt8:=[91,99,115,58]
def y3D(b:ByteArray)(pre:List UInt8)(p:Nat×Nat×Nat):Option ByteArray:=if Lib.hasPrefix (b.extract p.1 p.2.1).data.toList pre=true then some ⟨(Lib.trimPrefix (b.extract p.1 p.2.1).data.toList pre).toArray⟩else none
def y2a(f:Nat×Nat×Nat->Option ByteArray):List (Nat×Nat×Nat)->ByteArray
 | []=>⟨#[]⟩
 | p::r=>match f p with|some s=>s|none=>y2a f r
theorem y3l(f:Nat×Nat×Nat->Option ByteArray)(L:List (Nat×Nat×Nat))(k:Nat)(p:Nat×Nat×Nat)(h:L[k]?=some p):(∀s,f p=some s->y2a f (L.drop k)=s)/\(f p=none->y2a f (L.drop k)=y2a f (L.drop (k+1))):=by
 obtain⟨h1,h2⟩:=List.getElem?_eq_some_iff.1 h;rw[List.drop_eq_getElem_cons h1,h2];refine⟨fun s hs=>by rw[y2a,hs],fun hn=>by rw[y2a,hn]⟩
theorem y5g(f:Nat×Nat×Nat->Option ByteArray)(L:List (Nat×Nat×Nat))(k:Nat)(h:L.length<=k):y2a f (L.drop k)=⟨#[]⟩:=by
 rw[List.drop_eq_nil_of_le h];rfl
theorem yFI(l:List UInt8):∀(n a:Nat),l.length-a<=n->(lnF l a).length<=n
 | n,a,h=>by
  by_cases ha:a<l.length
  . rw[zq l a ha,List.length_cons]
    have hg:=y5J l a ha
    match n,h with
    | 0,h=>omega
    | n+1,h=>have:=yFI l n (nxB l (nxE l a)) (by omega);omega
  . rw[y0u l a ha];exact zD
theorem y1a(b:ByteArray):(lnF (bl b) 0).length<=b.size:=yFI (bl b) b.size 0 (by rw[zJ];omega)
theorem y0J(b:ByteArray):∀(L:List (Nat×Nat×Nat)) (k:Nat) (p:Nat×Nat×Nat),L[k]?=some p->∀(j:Nat) (v:Value),(y22 b p)[j]?=some v->(lcells b L)[k*3+j]?=some v
 | [],k,p,h,_,_,_=>by simp at h
 | q::L,0,p,h,j,v,hv=>by
  simp at h;subst h;have hj:j<(y22 b q).length:=(List.getElem?_eq_some_iff.1 hv).1;rw[Nat.zero_mul,Nat.zero_add];unfold lcells;rw[List.flatMap_cons,List.getElem?_append_left hj];exact hv
 | q::L,k+1,p,h,j,v,hv=>by
  have:=y0J b L k p (by simpa using h) j v hv;unfold lcells;rw[List.flatMap_cons,List.getElem?_append_right (by simp[y22];omega)];rw[show(k+1)*3+j-(y22 b q).length=k*3+j by simp[y22];omega];exact this
theorem y1V{w:World}{b:ByteArray}{L:List (Nat×Nat×Nat)}{g o cap n:Nat}(h:Row w (.slice (some ⟨g,o,none⟩) n cap) n (lcells b L))(k:Nat)(p:Nat×Nat×Nat)(hk:L[k]?=some p):
 w.cell? ⟨g,o+k*3,none⟩=some (.string (b.extract p.1 p.2.1))/\w.cell? ⟨g,o+k*3+1,none⟩=some (.string (b.extract p.2.1 p.2.2))/\w.cell? ⟨g,o+k*3+2,none⟩=some (.int .i64 (p.1:Int)):=by
 have hx:∀(j:Nat) (v:Value),(y22 b p)[j]?=some v->w.cell? ⟨g,o+(k*3+j),none⟩=some v:=fun j v hj=>by
  obtain⟨g',o',c',e,hc⟩:=y0X h _ _ (y0J b L k p hk j v hj);simp only[Value.slice.injEq,Option.some.injEq,Addr.mk.injEq]at e;obtain⟨⟨rfl,rfl,_⟩,_,_⟩:=e;exact hc
 exact⟨by simpa using hx 0 _ rfl,by have:=hx 1 _ rfl;rwa [<-Nat.add_assoc]at this,by have:=hx 2 _ rfl;rwa [<-Nat.add_assoc]at this⟩
theorem yAV(s:ByteArray)(pre:List UInt8)(w:World):Calls prog 246 #[.string s,.string ⟨pre.toArray⟩] w fun e w'=>e=.returned (.tuple #[.string ⟨(Lib.trimPrefix s.data.toList pre).toArray⟩,.bool (Lib.hasPrefix s.data.toList pre)])/\w'=w:=by
 have:=Tryz.strings_CutPrefix s ⟨pre.toArray⟩ w;simpa using this
theorem yGM(b:ByteArray)(w:World)(hs:b.size<=1000000):Calls prog 183 #[.string b] w fun e w'=>e=.returned (.string (y2a (y3D b cueP) (lnF (bl b) 0)))/\Below w.heap.size w w':=by
 obtain⟨L,hL⟩:∃L,L=lnF (bl b) 0:=⟨_,rfl⟩;have k1:=y5R b w hs;have Hc:=y1a b;rw[<-hL]at k1 Hc ⊢;clear hL;have K1:=z7 k1;have K2:=z7 (fun(p:Nat×Nat×Nat) w=>yAV (b.extract p.1 p.2.1) cueP w);clear k1
 go_enter func183,ntmps183
 go_wp2_with (go_at_call 241;(with_reducible refine(K1.out).mono ?_);rintro e w1 ⟨v,rfl,H6,Ha⟩;obtain⟨a1,c1,rfl⟩:=zN H6)
 have HR:=z7 (y01 H6);have H8:=z7 Ha;clear H6 Ha
 go_loopw [10] (fun iv wr=>∃k:Nat,iv=.int .i64 (k:Int)/\k<=L.length/\Hid (y2a (y3D b cueP) L=y2a (y3D b cueP) (L.drop k))/\Hid (Below w1.heap.size w1 wr)) (fun iv _=>L.length-(intOf iv).toNat)
 case atStart=>exact⟨0,rfl,zD,z7 rfl,z7 z8⟩
 case round=>
  obtain⟨k,rfl,hk,HD,HB⟩:=hrel;by_cases Hb:k<L.length
  . obtain⟨p,hp⟩:=zM L k Hb
    obtain⟨h1,h2⟩:=y3l (y3D b cueP) L k p hp;have H5:=HR.out.keep HB.out;obtain⟨g,o,c',e,_⟩:=y0X H5 _ _ (y0J b L k p hp 0 _ rfl);simp only[Value.slice.injEq]at e;obtain⟨rfl,_,rfl⟩:=e;obtain⟨q0,q1,q2⟩:=y1V H5 k p hp;have k2:=K2.out p;unfold y3D at h1 h2;have H9:=z7 (H8.out.trans (HB.out.mono H8.out.size));obtain⟨S,hS⟩:∃S,S=b.extract p.1 p.2.1:=⟨_,rfl⟩;obtain⟨U,hU⟩:∃U,U=b.extract p.2.1 p.2.2:=⟨_,rfl⟩;obtain⟨R,hR⟩:∃R:ByteArray,R=⟨(Lib.trimPrefix (b.extract p.1 p.2.1).data.toList cueP).toArray⟩:=⟨_,rfl⟩;rw[<-hS]at q0;rw[<-hU]at q1;rw[<-hR]at h1 k2;rw[<-hS]at h1 h2 k2;cases hc:Lib.hasPrefix S.data.toList cueP with
    | true=>
     rw[hc]at h1 k2;have hd:=h1 R rfl;have H7:=z7 (HD.out.trans hd);have K3:=z7 k2;clear h1 h2 k2 hd H5 hp hS hU hR hc
     go_wp2_with (go_at_call 246;refine(K3.out _).mono ?_;rintro e w2 ⟨rfl,rfl⟩)
     go_ret
     exact⟨by rw[H7.out];rfl,bal H9.out _⟩
    | false=>
     rw[hc]at h2 k2;have hd:=h2 rfl;have H7:=z7 (HD.out.trans hd);have K3:=z7 k2;clear h1 h2 k2 hd H5 hp hS hU hR hc
     go_wp2_with (go_at_call 246;refine(K3.out _).mono ?_;rintro e w2 ⟨rfl,rfl⟩)
     go_roundw
     case rel=>exact⟨k+1,by first|omega|go_num,by omega,H7,z7 (bal HB.out _)⟩
     case measure=>simp[intOf];omega
  . have hd:=y5g (y3D b cueP) L k (by omega)
    have H7:=z7 (HD.out.trans hd);have H9:=z7 (H8.out.trans (HB.out.mono H8.out.size));clear hd;go_wp2;go_ret
    exact⟨by rw[H7.out];rfl,H9.out⟩
theorem yEA(b:ByteArray)(w:World)(hs:b.size<=1000000):Calls prog 160 #[.string b] w fun e w'=>e=.returned (.string (y2a (y3D b ssaP) (lnF (bl b) 0)))/\Below w.heap.size w w':=by
 obtain⟨L,hL⟩:∃L,L=lnF (bl b) 0:=⟨_,rfl⟩;have k1:=y5R b w hs;have Hc:=y1a b;rw[<-hL]at k1 Hc ⊢;clear hL;have K1:=z7 k1;have K2:=z7 (fun(p:Nat×Nat×Nat) w=>yAV (b.extract p.1 p.2.1) ssaP w);clear k1
 go_enter func160,ntmps160
 go_wp2_with (go_at_call 241;(with_reducible refine(K1.out).mono ?_);rintro e w1 ⟨v,rfl,H6,Ha⟩;obtain⟨a1,c1,rfl⟩:=zN H6)
 have HR:=z7 (y01 H6);have H8:=z7 Ha;clear H6 Ha
 go_loopw [10] (fun iv wr=>∃k:Nat,iv=.int .i64 (k:Int)/\k<=L.length/\Hid (y2a (y3D b ssaP) L=y2a (y3D b ssaP) (L.drop k))/\Hid (Below w1.heap.size w1 wr)) (fun iv _=>L.length-(intOf iv).toNat)
 case atStart=>exact⟨0,rfl,zD,z7 rfl,z7 z8⟩
 case round=>
  obtain⟨k,rfl,hk,HD,HB⟩:=hrel;by_cases Hb:k<L.length
  . obtain⟨p,hp⟩:=zM L k Hb
    obtain⟨h1,h2⟩:=y3l (y3D b ssaP) L k p hp;have H5:=HR.out.keep HB.out;obtain⟨g,o,c',e,_⟩:=y0X H5 _ _ (y0J b L k p hp 0 _ rfl);simp only[Value.slice.injEq]at e;obtain⟨rfl,_,rfl⟩:=e;obtain⟨q0,q1,q2⟩:=y1V H5 k p hp;have k2:=K2.out p;unfold y3D at h1 h2;have H9:=z7 (H8.out.trans (HB.out.mono H8.out.size));obtain⟨S,hS⟩:∃S,S=b.extract p.1 p.2.1:=⟨_,rfl⟩;obtain⟨U,hU⟩:∃U,U=b.extract p.2.1 p.2.2:=⟨_,rfl⟩;obtain⟨R,hR⟩:∃R:ByteArray,R=⟨(Lib.trimPrefix (b.extract p.1 p.2.1).data.toList ssaP).toArray⟩:=⟨_,rfl⟩;rw[<-hS]at q0;rw[<-hU]at q1;rw[<-hR]at h1 k2;rw[<-hS]at h1 h2 k2;cases hc:Lib.hasPrefix S.data.toList ssaP with
    | true=>
     rw[hc]at h1 k2;have hd:=h1 R rfl;have H7:=z7 (HD.out.trans hd);have K3:=z7 k2;clear h1 h2 k2 hd H5 hp hS hU hR hc
     go_wp2_with (go_at_call 246;refine(K3.out _).mono ?_;rintro e w2 ⟨rfl,rfl⟩)
     go_ret
     exact⟨by rw[H7.out];rfl,bal H9.out _⟩
    | false=>
     rw[hc]at h2 k2;have hd:=h2 rfl;have H7:=z7 (HD.out.trans hd);have K3:=z7 k2;clear h1 h2 k2 hd H5 hp hS hU hR hc
     go_wp2_with (go_at_call 246;refine(K3.out _).mono ?_;rintro e w2 ⟨rfl,rfl⟩)
     go_roundw
     case rel=>exact⟨k+1,by first|omega|go_num,by omega,H7,z7 (bal HB.out _)⟩
     case measure=>simp[intOf];omega
  . have hd:=y5g (y3D b ssaP) L k (by omega)
    have H7:=z7 (HD.out.trans hd);have H9:=z7 (H8.out.trans (HB.out.mono H8.out.size));clear hd;go_wp2;go_ret
    exact⟨by rw[H7.out];rfl,H9.out⟩
end
section
open Go Go.Rf Go.RowKit Go.Proofs.Tryz
def cloL:List UInt8:=[93]
def sufB(s:ByteArray):Bool:=(s.extract (s.size-1) s.size).data.toList==cloL
theorem yI0(s:ByteArray)(w:World)(hs:s.size<=9223372036854775807):Calls prog 376 #[.string s,.string ⟨#[93]⟩] w fun e w'=>e=.returned (.bool (sufB s))/\w'=w:=by
 by_cases h:1<=s.size
 . have hq:((s.extract (s.size-1) s.size).toList == [93])=sufB s:=by rw[ByteArray.toList_eq];rfl
   have i1:IntKind.i64.wrap ((s.size:Int)-1)=(s.size:Int)-1:=wi64 _ (by omega) (by omega);have i2:((s.size:Int)-1).toNat=s.size-1:=by omega
   have i3:(0:Int)<=(s.size:Int)-1:=by omega
   have i4:(s.size:Int)-1<=(s.size:Int):=by omega
   have i5:(1:Int)<=(s.size:Int):=by omega
   go_enter func376,ntmps376
   go_wp2_with fail
   go_ret
   exact⟨by first|rfl|rw[hq],rfl⟩
 . have hz:sufB s=false:=by
    have:s=⟨#[]⟩:=by apply ByteArray.ext;apply Array.eq_empty_of_size_eq_zero;show s.size=0;omega
    rw[this];rfl
   rw[hz];have i5:¬(1:Int)<=(s.size:Int):=by omega
   go_enter func376,ntmps376
   go_wp2_with fail
   go_ret
   exact⟨rfl,rfl⟩
theorem yIL(s:ByteArray)(w:World)(hs:s.size<=9223372036854775807):Calls prog 328 #[.string s,.string ⟨#[93]⟩] w fun e w'=>e=.returned (.tuple #[.string (if sufB s=true then s.extract 0 (s.size-1)else s),.bool (sufB s)])/\w'=w:=by
 have k:=fun w'=>yI0 s w' hs
 cases hb:sufB s with
 | true=>
  have h1:1<=s.size:=by
   rcases Nat.lt_or_ge s.size 1 with h|h
   . have:s=⟨#[]⟩:=by apply ByteArray.ext;apply Array.eq_empty_of_size_eq_zero;show s.size=0;omega
     rw[this]at hb;cases hb
   . exact h
  rw[hb]at k;have K:=z7 k;have i1:IntKind.i64.wrap ((s.size:Int)-1)=(s.size:Int)-1:=wi64 _ (by omega) (by omega);have i2:((s.size:Int)-1).toNat=s.size-1:=by omega
  have i3:(0:Int)<=(s.size:Int)-1:=by omega
  have i4:(s.size:Int)-1<=(s.size:Int):=by omega
  rw[if_pos rfl];clear k hb
  go_enter func328,ntmps328
  go_wp2_with (go_at_call 376;refine(K.out _).mono ?_;rintro e w1 ⟨rfl,rfl⟩)
  go_ret2
  exact⟨rfl,rfl⟩
 | false=>
  rw[hb]at k;have K:=z7 k;rw[if_neg (by decide)];clear k hb
  go_enter func328,ntmps328
  go_wp2_with (go_at_call 376;refine(K.out _).mono ?_;rintro e w1 ⟨rfl,rfl⟩)
  go_ret2
  exact⟨rfl,rfl⟩
theorem yD4(s:ByteArray)(w:World)(hG:GW w)(hs:s.size<=9223372036854775807):Calls prog 271 #[.string s,.string ⟨⟨cloL⟩⟩] w fun e w'=>e=.returned (.tuple #[.string (if sufB s=true then s.extract 0 (s.size-1)else s),.bool (sufB s)])/\Below w.heap.size w w':=by
 show Calls prog 271 #[.string s,.string ⟨#[93]⟩] w _;obtain⟨A,hA⟩:∃A,A=(if sufB s=true then s.extract 0 (s.size-1)else s):=⟨_,rfl⟩;have k:=fun w'=>yIL s w' hs
 rw[<-hA]at k ⊢;generalize sufB s=q at k ⊢;have K:=z7 k;clear k hA
 go_enter func271,ntmps271
 go_wp2_with (go_at_call 328;refine(K.out _).mono ?_;rintro e w1 ⟨rfl,rfl⟩)
 go_ret2
 exact⟨rfl,z8⟩
def yCp(b:ByteArray)(p:Nat×Nat×Nat):Option ByteArray:=match y3D b lrcP p with
 | some r=>if sufB r=true then some (r.extract 0 (r.size-1))else none
 | none=>none
end
section
open Go.RowKit Go.Proofs.Tryz
theorem yGq(l p:List UInt8):(Lib.trimPrefix l p).length<=l.length:=by
 unfold Lib.trimPrefix;split
 . rw[List.length_drop];omega
 . exact zA
theorem yFM(b:ByteArray)(w:World)(hG:GW w)(hs:b.size<=1000000):Calls prog 184 #[.string b] w fun e w'=>e=.returned (.string (y2a (yCp b) (lnF (bl b) 0)))/\Below w.heap.size w w':=by
 obtain⟨L,hL⟩:∃L,L=lnF (bl b) 0:=⟨_,rfl⟩;have k1:=y5R b w hs;have Hf:=y1a b;rw[<-hL]at k1 Hf ⊢;clear hL;have K1:=z7 k1;have K2:=z7 (fun(p:Nat×Nat×Nat) w=>yAV (b.extract p.1 p.2.1) lrcP w);clear k1
 go_enter func184,ntmps184
 go_wp2_with (go_at_call 241;(with_reducible refine(K1.out).mono ?_);rintro e w1 ⟨v,rfl,H6,Hd⟩;obtain⟨a1,c1,rfl⟩:=zN H6)
 have HR:=z7 (y01 H6);have H8:=z7 Hd;clear H6 Hd
 go_loopw [12] (fun iv wr=>∃k:Nat,iv=.int .i64 (k:Int)/\k<=L.length/\Hid (y2a (yCp b) L=y2a (yCp b) (L.drop k))/\Hid (Below w1.heap.size w1 wr)) (fun iv _=>L.length-(intOf iv).toNat)
 case atStart=>exact⟨0,rfl,zD,z7 rfl,z7 z8⟩
 case round=>
  obtain⟨k,rfl,hk,HD,HB⟩:=hrel;by_cases He:k<L.length
  . obtain⟨p,hp⟩:=zM L k He
    obtain⟨h1,h2⟩:=y3l (yCp b) L k p hp;have H5:=HR.out.keep HB.out;obtain⟨g,o,c',e,_⟩:=y0X H5 _ _ (y0J b L k p hp 0 _ rfl);simp only[Value.slice.injEq]at e;obtain⟨rfl,_,rfl⟩:=e;obtain⟨q0,q1,q2⟩:=y1V H5 k p hp;have k2:=K2.out p;unfold yCp y3D at h1 h2;have HG:=hG.bel (H8.out.trans (HB.out.mono H8.out.size));have Hc:=z7 (H8.out.trans (HB.out.mono H8.out.size));obtain⟨S,hS⟩:∃S,S=b.extract p.1 p.2.1:=⟨_,rfl⟩;obtain⟨U,hU⟩:∃U,U=b.extract p.2.1 p.2.2:=⟨_,rfl⟩;obtain⟨R,hR⟩:∃R:ByteArray,R=⟨(Lib.trimPrefix (b.extract p.1 p.2.1).data.toList lrcP).toArray⟩:=⟨_,rfl⟩;have H9:(⟨(Lib.trimPrefix (b.extract p.1 p.2.1).data.toList lrcP).toArray⟩:ByteArray).size<=9223372036854775807:=by
     have h1:=yGq (b.extract p.1 p.2.1).data.toList lrcP;have h2:(b.extract p.1 p.2.1).data.toList.length<=b.size:=by show(b.extract p.1 p.2.1).size<=_;rw[zG];omega
     show(Lib.trimPrefix (b.extract p.1 p.2.1).data.toList lrcP).length<=_;omega
    rw[<-hS]at q0;rw[<-hU]at q1;rw[<-hR]at h1 h2 k2;rw[<-hS]at h1 h2 k2;cases hc:Lib.hasPrefix S.data.toList lrcP with
    | true=>
     rw[hc]at h1 h2 k2;rw[if_pos rfl]at h1 h2;simp only at h1 h2;have k3:=fun w hG=>yD4 R w hG (by rw[hR];exact H9)
     cases hf:sufB R with
     | true=>
      rw[hf]at h1 k3;rw[if_pos rfl]at h1;have hd:=h1 _ rfl;simp only[if_true]at k3;obtain⟨V,hV⟩:∃V,V=R.extract 0 (R.size-1):=⟨_,rfl⟩;rw[<-hV]at hd k3;have H7:=z7 (HD.out.trans hd);have K3:=z7 k2;have K4:=z7 k3;have Hb:=z7 HG;clear h1 h2 k2 hd H5 hp hS hU hR hc hf k3 hV HG H9
      go_wp2_with (first
       | (go_at_call 246;refine(K3.out _).mono ?_;rintro e w2 ⟨rfl,rfl⟩)
       | (go_at_call 271;refine(K4.out _ (Hb.out.bel (bal z8 _))).mono ?_;rintro e w3 ⟨rfl,Ha⟩))
      go_ret
      exact⟨by rw[H7.out];rfl,bt (bal Hc.out _) Ha⟩
     | false=>
      rw[hf]at h2 k3;rw[if_neg (by decide)]at h2;have hd:=h2 rfl;simp only[Bool.false_eq_true,if_false]at k3;have H7:=z7 (HD.out.trans hd);have K3:=z7 k2;have K4:=z7 k3;have Hb:=z7 HG;clear h1 h2 k2 hd H5 hp hS hU hR hc hf k3 HG H9
      go_wp2_with (first
       | (go_at_call 246;refine(K3.out _).mono ?_;rintro e w2 ⟨rfl,rfl⟩)
       | (go_at_call 271;refine(K4.out _ (Hb.out.bel (bal z8 _))).mono ?_;rintro e w3 ⟨rfl,Ha⟩))
      go_roundw
      case rel=>exact⟨k+1,by first|omega|go_num,by omega,H7,z7 (bt (bal HB.out _) Ha)⟩
      case measure=>simp[intOf];omega
    | false=>
     rw[hc]at h2 k2;have hd:=h2 rfl;have H7:=z7 (HD.out.trans hd);have K3:=z7 k2;clear h1 h2 k2 hd H5 hp hS hU hR hc HG H9
     go_wp2_with (go_at_call 246;refine(K3.out _).mono ?_;rintro e w2 ⟨rfl,rfl⟩)
     go_roundw
     case rel=>exact⟨k+1,by first|omega|go_num,by omega,H7,z7 (bal HB.out _)⟩
     case measure=>simp[intOf];omega
  . have hd:=y5g (yCp b) L k (by omega)
    have H7:=z7 (HD.out.trans hd);have Hc:=z7 (H8.out.trans (HB.out.mono H8.out.size));clear hd;go_wp2;go_ret
    exact⟨by rw[H7.out];rfl,Hc.out⟩
end
open Go Go.Rf Go.RowKit Go.Proofs.Tryz
theorem badHi(x:UInt8)(r:List UInt8)(h:248<=x.toNat):y00 (x::r)=true:=by
 rw[y2v];have e0:((x::r).getD 0 0).toNat=x.toNat:=rfl;have hx:=x.toNat_lt;unfold dec;rw[e0];unfold Lib.decodeN;rw[if_neg (by omega),if_neg (by omega),if_neg (by omega),if_neg (by omega)]
theorem yFe(l:List UInt8)(hg:(scanL l).2=none):∀x r,l=x::r->x.toNat<248:=by
 rintro x r rfl;rcases Nat.lt_or_ge x.toNat 248 with h|h
 . exact h
 . have:=badHi x r h
   unfold scanL at hg;rw[List.length_cons,y1u _ _ _ _ (List.cons_ne_nil _ _) this]at hg;cases hg
theorem yHi(l:List UInt8)(hb:Lib.hasPrefix l [239,187,191]=false)(hg:(scanL l).2=none):y3c l=(0,0):=by
 have no:∀(a:UInt8) (p:List UInt8),248<=a.toNat->Lib.hasPrefix l (a::p)=false:=fun a p ha=>by
  cases hc:Lib.hasPrefix l (a::p)with
  | false=>rfl
  | true=>
   cases l with
   | nil=>cases hc
   | cons x r=>
    have h1:=yFe _ hg x r rfl;simp[Lib.hasPrefix,List.isPrefixOf]at hc;have h2:a=x:=hc.1;subst h2;omega
 unfold y3c;rw[hb,no 255 _ (by decide),no 254 _ (by decide)];rfl
theorem yCU(b d:ByteArray)(z fb bu:Int)(g:Bool)(w:World)(hT:TW w)(hb:b.size<=1048576)(hv:(scanL (bl b)).2=none):
 Calls prog 106 #[.string b,.string d,.agg #[.int .i64 z,.int .i64 fb,.bool g,.int .i64 bu]] w fun e w'=>e=.returned (.int .i64 7)/\Below w.heap.size w w':=by
 have k1:=y88 b (w.alloc (.cells #[.int .i64 z,.int .i64 fb,.bool g,.int .i64 bu] 25)) (hT.bel (bal z8 _)) (by omega);rw[hv]at k1;have K1:=z7 k1;clear k1
 go_enter func106,ntmps106
 go_wp2_with (go_at_call 117;refine(K1.out).mono ?_;rintro e w1 ⟨rfl,H5⟩)
 go_ret
 exact⟨rfl,bt (bal z8 _) H5⟩
theorem yGN(b:ByteArray)(w:World)(hT:TW w)(hb:b.size<=1048576)(hv:(scanL (bl b)).2=none):
 Calls prog 108 #[.int .i64 7,.string b] w fun e w'=>e=.returned (.tuple #[.string b,.agg #[.int .i64 0,.int .i64 0]])/\Below w.heap.size w w':=by
 have:=y9A b w hT (by omega);unfold CDecPost at this;rw[y1A 7 _ (by omega),yIV,yIj]at this;unfold decU at this;rw[hv]at this;rw[show(⟨(bl b).toArray⟩:ByteArray)=b from y1Z b]at this;exact this
theorem y93(k:Nat)(H7:4<=k)(H6:k<8)(b:ByteArray)(w:World)(hG:GW w)(hs:b.size<=1000000):Calls prog 107 #[.int .i64 k,.string b] w fun e w'=>(∃d,e=.returned (.string d))/\Below w.heap.size w w':=by
 have K1:=z7 (yGM b w hs);have K2:=z7 (yEA b w hs);have K3:=z7 (yFM b w hG hs);obtain⟨K,hK⟩:∃K:Int,K=(k:Int):=⟨_,rfl⟩;rw[<-hK];rcases(by omega:K=4\/K=5\/K=6\/K=7)with rfl|rfl|rfl|rfl
 all_goals (
  clear H7 H6 hK
  go_enter func107,ntmps107
  go_wp2_with (first
   | (go_at_call 183;refine(K1.out).mono ?_;rintro e w1 ⟨rfl,H5⟩)
   | (go_at_call 160;refine(K2.out).mono ?_;rintro e w1 ⟨rfl,H5⟩)
   | (go_at_call 184;refine(K3.out).mono ?_;rintro e w1 ⟨rfl,H5⟩))
  go_ret
  exact⟨⟨_,rfl⟩,by first|exact H5|exact z8⟩)
abbrev opG(k fb:Int)(g:Bool)(bu:Int):Array Value:=#[.int .i64 k,.int .i64 fb,.bool g,.int .i64 bu]
structure Opt where
 k:Nat
 fb:Int
 g:Bool
 bu:Int
abbrev Opt.c(o:Opt):Array Value:=opG (o.k:Int) o.fb o.g o.bu
abbrev faZ:Array Value:=#[.int .i64 0,.int .i64 0]
theorem y2j{P:Program}{fn:Func}{p q:Tmp}{t1 t2:TypeId}(h:fn.results=#[.cell p t1,.cell q t2])(tmps:Array Value)(w:World)(g1 g2:Nat)(e1 e2:TypeId)(c1 c2:Array Value)(f1 f2:Nat×Nat)(d1 d2:TypeDesc)
 (hp:tmps.getD p undef=.pointer (some ⟨g1,0,none⟩)) (hq:tmps.getD q undef=.pointer (some ⟨g2,0,none⟩)) (Hc:w.heap[g1]?=some (.cells c1 e1 f1)) (Hb:w.heap[g2]?=some (.cells c2 e2 f2))
 (H6:P.underlying t1=some d1) (He:(match d1 with | .struct _ | .array _ _=>true|_=>false)=true) (Ha:(P.info? t1).map (·.size)=some c1.size)
 (H5:P.underlying t2=some d2) (Hd:(match d2 with | .struct _ | .array _ _=>true|_=>false)=true) (H9:(P.info? t2).map (·.size)=some c2.size):
 (results fn tmps).run P w=.ok (.tuple #[.agg c1,.agg c2]) w:=by
 have H8:tmps[p]?.getD undef=.pointer (some ⟨g1,0,none⟩):=by simpa using hp
 have H7:tmps[q]?.getD undef=.pointer (some ⟨g2,0,none⟩):=by simpa using hq
 simp[results,h,H8,H7,asAddr,run_loadVar_row w g1 e1 t1 c1 f1 d1 Hc H6 He Ha,run_loadVar_row w g2 e2 t2 c2 f2 d2 Hb H5 Hd H9]
theorem y1z{w:World}{B e k n:Nat}{v:Value}{cs:List Value}(h:w.ownsRow B e k v n cs){p:Addr}(u:Value)(hp:p.block<B):(w.setCell p u).ownsRow B e k v n cs:=
 za h fun j hj=>Below.heap_setCell _ _ _ _ (by have:=(zf h j hj).1;omega)
theorem infoFa:(Tryz.prog.info? 40).map (·.size)=some faZ.size:=by show _=some 2;kernel_rfl
theorem y3R(k z:Int)(a:Option Addr)(n c:Nat):(treeA k (.slice a n c) z).all (·.oneCell')=true:=by kernel_rfl
theorem faOne:faZ.all (·.oneCell')=true:=by kernel_rfl
theorem zx{w:World}{B e k n g:Nat}{v:Value}{cs:List Value}(h:w.ownsRow B e k v n cs)(x:Array Value)(hp:g<B):(w.setRow g x).ownsRow B e k v n cs:=
 za h fun j hj=>setRow_other _ _ _ _ (by have:=(zf h j hj).1;omega)
structure FS (w:World) (o:Opt) (wr:World):Prop where
 gg:Below w.heap.size w wr
 ob:wr.heap[w.heap.size]?=some (.cells o.c 25 (0,0))
 tr:wr.heap[w.heap.size+1]?=some (.cells (treeA 0 (.slice none 0 0) 0) 90 (0,0))
 rt:wr.heap[w.heap.size+2]?=some (.cells faZ 40 (0,0))
theorem FS.bel{w wr:World}{o:Opt}(h:FS w o wr){w':World}(hb:Below wr.heap.size wr w'):FS w o w':=⟨bt h.gg hb,blkQ h.ob hb,blkQ h.tr hb,blkQ h.rt hb⟩
theorem FS.drew{w wr:World}{o:Opt}(h:FS w o wr):FS w o wr.drew:=⟨h.gg.drew,h.ob,h.tr,h.rt⟩
theorem FS.big{w wr:World}{o:Opt}(h:FS w o wr):w.heap.size+3<=wr.heap.size:=(Array.getElem?_eq_some_iff.1 h.rt).1
theorem FS.cell{w wr:World}{o:Opt}(h:FS w o wr){p:Addr}(hp:w.heap.size+3<=p.block)(u:Value):FS w o (wr.setCell p u):=by
 have e:∀j,j<w.heap.size+3->(wr.setCell p u).heap[j]?=wr.heap[j]?:=fun j hj=>Below.heap_setCell _ _ _ _ (by omega)
 exact⟨h.gg.setCell (by omega) u,(e _ (by omega)).trans h.ob,(e _ (by omega)).trans h.tr,(e _ (by omega)).trans h.rt⟩
theorem FS.opt{w wr:World}{o:Opt}(h:FS w o wr):wr.cell? ⟨w.heap.size,0,none⟩=some (.int .i64 (o.k:Int))/\wr.cell? ⟨w.heap.size,1,none⟩=some (.int .i64 o.fb)/\wr.cell? ⟨w.heap.size,2,none⟩=some (.bool o.g)/\wr.cell? ⟨w.heap.size,3,none⟩=some (.int .i64 o.bu):=
 ⟨(zL h.ob 0 _ rfl).1,(zL h.ob 1 _ rfl).1,(zL h.ob 2 _ rfl).1,(zL h.ob 3 _ rfl).1⟩
theorem y7j(w:World)(o:Opt):∃W,W=((w.alloc (.cells o.c 25)).alloc (.cells (treeA 0 (.slice none 0 0) 0) 90)).alloc (.cells faZ 40)/\FS w o W:=by
 have H6:(w.alloc (.cells o.c 25)).heap.size=w.heap.size+1:=Y4 _ _;have H5:((w.alloc (.cells o.c 25)).alloc (.cells (treeA 0 (.slice none 0 0) 0) 90)).heap.size=w.heap.size+2:=by rw[Y4,H6]
 have hb:Below w.heap.size w (((w.alloc (.cells o.c 25)).alloc (.cells (treeA 0 (.slice none 0 0) 0) 90)).alloc (.cells faZ 40)):=bal (bal (bal z8 _) _) _;refine⟨_,rfl,hb,?_,?_,?_⟩
 . rw[heap_alloc_old _ _ (by rw[H5];omega),heap_alloc_old _ _ (by rw[H6];omega)];exact heap_alloc_new _ _
 . rw[heap_alloc_old _ _ (by rw[H5];omega),<-H6];exact heap_alloc_new _ _
 . rw[<-H5];exact heap_alloc_new _ _
def FReadG(l:List Pc)(kd z:Int)(w:World)(e:Ending)(w':World):Prop:=∃u,e=.returned (.tuple #[.agg (treeA kd u z),.agg faZ])/\w'.ownsRow w.heap.size 173 3 u l.length (pcC l)/\Below w.heap.size w w'
theorem yCW(o:Opt)(Hd:4<=o.k)(Hc:o.k<8)(l:List Pc)(w:World)(hG:GW w)(S t:ByteArray)(c:Int)(n:Nat)(hm:y3c (bl S)=(c,(n:Int)))(Hf:0<n)(He:n<=S.size)(hs:t.size<=999990)(hS:S.size<=1000000)(hx:txM o.k t=.inl l)
 (hd:∀w',TW w'->Calls prog 108 #[.int .i64 c,.string (S.extract n S.size)] w' fun e w''=>e=.returned (.tuple #[.string t,.agg faZ])/\Below w'.heap.size w' w''):
 Calls prog 57 #[.int .i64 (o.k:Int),.string S,.agg o.c] w (FReadG l 0 c w):=by
 obtain⟨W,hW,C⟩:=y7j w o;have kp:∀wr,FS w o wr->Calls prog 109 #[.int .i64 (o.k:Int),.string t] wr fun e w'=>Below wr.heap.size wr w'/\∃u,e=.returned (.tuple #[u,.agg faZ])/\w'.ownsRow wr.heap.size 173 3 u l.length (pcC l):=fun wr h=>by
  refine(y2p o.k Hd Hc t wr (hG.bel h.gg) (by omega)).mono fun e w' hp=>?_
  unfold ParsP at hp;rw[hx]at hp;obtain⟨hb,⟨a,h1,_⟩|⟨l',u,h1,h2,h3⟩⟩:=hp
  . cases h1
  . cases h1
    exact⟨hb,u,h2,h3⟩
 have kb:=fun w=>y0a 0 0 w
 rw[show(!decide ((0:Int)=0))=false from rfl]at kb;have km:=yBV S W;have kc:∀wr,FS w o wr->_:=fun wr h=>hd wr (hG.bel h.gg).tw
 have KP:=z7 kp;have KB:=z7 kb;have KC:=z7 kc;have KW:=z7 hW;obtain⟨K,hK⟩:∃K:Int,K=(o.k:Int):=⟨_,rfl⟩;clear kp kb kc hW hx hG hd;rw[hm]at km;have KM:=z7 km;have e0:(n:Int)<=(S.size:Int):=by omega
 have e1:((n:Int)==0)=false:=by rw[Y2];omega
 have e2:¬(n:Int)=0:=by omega
 have e3:(0:Int)<=(n:Int):=by omega
 clear km hm
 go_enter func57,ntmps57
 go_upto_region 1 with fail
 rw[<-KW.out]
 go_upto_region 10 with(first
  | (go_at_call 105;refine(KM.out).mono ?_;rintro e1 w1 ⟨rfl,rfl⟩)
  | (go_at_call 108;refine(KC.out _ C).mono ?_;rintro e2 w2 ⟨rfl,Ha⟩;have C2:=(C.bel Ha).bel (bal z8 (.cells faZ 40));have H8:=(C.bel Ha).big;have M0:=Live.fresh w2 faZ 40 0 _ rfl;have M1:=Live.fresh w2 faZ 40 1 _ rfl;have M0':=M0;obtain⟨m0,m0'⟩:=M0';have M1':=M1;obtain⟨m1,m1'⟩:=M1')
  | (go_at_call 11;refine(KB.out _).mono ?_;rintro e5 w5 ⟨rfl,H9⟩;have C5:=((C4.cell (p:=⟨w2.heap.size,0,none⟩) H8 (.int .i64 0)).cell (p:=⟨w2.heap.size,1,none⟩) H8 (.int .i64 0)).bel H9;have Hb:=zK (y1z (y1z hu (p:=⟨w2.heap.size,0,none⟩) (.int .i64 0) H7) (p:=⟨w2.heap.size,1,none⟩) (.int .i64 0) H7) H9)
  | (go_at_call 11;refine(KB.out _).mono ?_;rintro e3 w3 ⟨rfl,H5⟩;have C3:=C2.bel H5;(have H7:w2.heap.size<w3.heap.size:=by have:=H5.size;rw[Y4]at this;exact this);have M03:=M0.keep H5;have M13:=M1.keep H5)
  | (go_at_call 109;refine(KP.out _ C3).mono ?_;rintro e4 w4 ⟨H6,u,rfl,hu⟩;obtain⟨ua,uc,rfl⟩:=zN hu;have C4:=C3.bel H6;obtain⟨n0,n0'⟩:=M03.keep H6;obtain⟨n1,n1'⟩:=M13.keep H6))
 go_wp2_with (first
  | (refine Go.wpList_store_row rfl 90 _ _ rfl (w.heap.size+1) (treeA 0 (.slice ua l.length uc) (c)) rfl rfl 90 _ C5.tr (infoTr _ _ _) rfl (y3R _ _ _ _ _) ?_)
  | (refine Go.wpList_store_row rfl 40 _ _ rfl (w.heap.size+2) faZ rfl rfl 40 faZ ((setRow_other _ _ _ _ (by omega)).trans C5.rt) infoFa rfl faOne ?_))
 refine bodyPost_ret (y2j rfl _ _ (w.heap.size+1) (w.heap.size+2) 90 40 (treeA 0 (.slice ua l.length uc) (c)) faZ (0,0) (0,0) _ _ rfl rfl ((setRow_other _ _ _ _ (by omega)).trans (setRow_heap _ _ _ _ _ _ C5.tr)) (setRow_heap _ _ _ _ _ _ ((setRow_other _ _ _ _ (by omega)).trans C5.rt)) underlying90 rfl (infoTr _ _ _) underlying40 rfl infoFa) rfl ?_;exact⟨_,rfl,zd (zx (zx Hb _ (by omega)) _ (by omega)) (by omega),below_setRow (below_setRow C5.gg _ (by omega) _) _ (by omega) _⟩
theorem y9u(o:Opt)(Hb:4<=o.k)(Ha:o.k<8)(l:List Pc)(w:World)(hG:GW w)(S:ByteArray)(hm:y3c (bl S)=(0,0))(hv:(scanL (bl S)).2=none)(hs:S.size<=999990)(hx:txM o.k S=.inl l):
 Calls prog 57 #[.int .i64 (o.k:Int),.string S,.agg o.c] w (FReadG l 0 7 w):=by
 obtain⟨W,hW,C⟩:=y7j w o;have kp:∀wr,FS w o wr->Calls prog 109 #[.int .i64 (o.k:Int),.string S] wr fun e w'=>Below wr.heap.size wr w'/\∃u,e=.returned (.tuple #[u,.agg faZ])/\w'.ownsRow wr.heap.size 173 3 u l.length (pcC l):=fun wr h=>by
  refine(y2p o.k Hb Ha S wr (hG.bel h.gg) (by omega)).mono fun e w' hp=>?_
  unfold ParsP at hp;rw[hx]at hp;obtain⟨hb,⟨a,h1,_⟩|⟨l',u,h1,h2,h3⟩⟩:=hp
  . cases h1
  . cases h1
    exact⟨hb,u,h2,h3⟩
 have kb:=fun w=>y0a 0 0 w
 rw[show(!decide ((0:Int)=0))=false from rfl]at kb;have km:=yBV S W;have kc:∀wr,FS w o wr->Calls prog 108 #[.int .i64 7,.string S] wr fun e w'=>e=.returned (.tuple #[.string S,.agg faZ])/\Below wr.heap.size wr w':=fun wr h=>yGN S wr (hG.bel h.gg).tw (by omega) hv
 have kd:∀wr,FS w o wr->Calls prog 107 #[.int .i64 (o.k:Int),.string S] wr fun e w'=>(∃d,e=.returned (.string d))/\Below wr.heap.size wr w':=fun wr h=>y93 o.k Hb Ha S wr (hG.bel h.gg) (by omega)
 have kr:∀wr d,FS w o wr->Calls prog 106 #[.string S,.string d,.agg o.c] wr fun e w'=>e=.returned (.int .i64 7)/\Below wr.heap.size wr w':=fun wr d h=>yCU S d (o.k:Int) o.fb o.bu o.g wr (hG.bel h.gg).tw (by omega) hv
 have KP:=z7 kp;have KB:=z7 kb;have KC:=z7 kc;have KD:=z7 kd;have KR:=z7 kr;have KW:=z7 hW;clear kp kb kc kd kr hW hx hv hG;rw[hm]at km;have KM:=z7 km;clear km hm;have D:=C.drew;obtain⟨d0,d1,d2,d3⟩:=D.opt
 go_enter func57,ntmps57
 go_upto_region 1 with fail
 rw[<-KW.out]
 go_upto_region 3 with(go_at_call 105;refine(KM.out).mono ?_;rintro e1 w1 ⟨rfl,rfl⟩)
 go_cut [8] (fun s8 wx=>s8=.int .i64 7/\FS w o wx)
 case first=>
  go_region_with (first
   | (go_at_call 107;refine(KD.out _ D).mono ?_;rintro e2 w2 ⟨⟨d,rfl⟩,H6⟩;have C2:=D.bel H6;obtain⟨d0,d1,d2,d3⟩:=C2.opt)
   | (go_at_call 106;refine(KR.out _ d C2).mono ?_;rintro e3 w3 ⟨rfl,H5⟩;have C3:=C2.bel H5))
  all_goals (go_wp2_with fail;go_meet;exact⟨rfl,C3⟩)
 case rest=>
  obtain⟨rfl,C0⟩:=hcut;have he:S.extract 0 S.size=S:=by apply ByteArray.ext;apply Array.ext';rw[y0E];rfl
  go_upto_region 10 with(first
   | (go_at_call 108;refine(KC.out _ C0).mono ?_;rintro e2 w2 ⟨rfl,H6⟩;have C2:=(C0.bel H6).bel (bal z8 (.cells faZ 40));have H9:=(C0.bel H6).big;have M0:=Live.fresh w2 faZ 40 0 _ rfl;have M1:=Live.fresh w2 faZ 40 1 _ rfl;have M0':=M0;obtain⟨m0,m0'⟩:=M0';have M1':=M1;obtain⟨m1,m1'⟩:=M1')
   | (go_at_call 11;refine(KB.out _).mono ?_;rintro e5 w5 ⟨rfl,Hc⟩;have C5:=((C4.cell (p:=⟨w2.heap.size,0,none⟩) H9 (.int .i64 0)).cell (p:=⟨w2.heap.size,1,none⟩) H9 (.int .i64 0)).bel Hc;have Hd:=zK (y1z (y1z hu (p:=⟨w2.heap.size,0,none⟩) (.int .i64 0) H8) (p:=⟨w2.heap.size,1,none⟩) (.int .i64 0) H8) Hc)
   | (go_at_call 11;refine(KB.out _).mono ?_;rintro e3 w3 ⟨rfl,H5⟩;have C3:=C2.bel H5;(have H8:w2.heap.size<w3.heap.size:=by have:=H5.size;rw[Y4]at this;exact this);have M03:=M0.keep H5;have M13:=M1.keep H5)
   | (go_at_call 109;refine(KP.out _ C3).mono ?_;rintro e4 w4 ⟨H7,u,rfl,hu⟩;obtain⟨ua,uc,rfl⟩:=zN hu;have C4:=C3.bel H7;obtain⟨n0,n0'⟩:=M03.keep H7;obtain⟨n1,n1'⟩:=M13.keep H7))
  go_wp2_with (first
   | (refine Go.wpList_store_row rfl 90 _ _ rfl (w.heap.size+1) (treeA 0 (.slice ua l.length uc) (7)) rfl rfl 90 _ C5.tr (infoTr _ _ _) rfl (y3R _ _ _ _ _) ?_)
   | (refine Go.wpList_store_row rfl 40 _ _ rfl (w.heap.size+2) faZ rfl rfl 40 faZ ((setRow_other _ _ _ _ (by omega)).trans C5.rt) infoFa rfl faOne ?_))
  refine bodyPost_ret (y2j rfl _ _ (w.heap.size+1) (w.heap.size+2) 90 40 (treeA 0 (.slice ua l.length uc) (7)) faZ (0,0) (0,0) _ _ rfl rfl ((setRow_other _ _ _ _ (by omega)).trans (setRow_heap _ _ _ _ _ _ C5.tr)) (setRow_heap _ _ _ _ _ _ ((setRow_other _ _ _ _ (by omega)).trans C5.rt)) underlying90 rfl (infoTr _ _ _) underlying40 rfl infoFa) rfl ?_;exact⟨_,rfl,zd (zx (zx Hd _ (by omega)) _ (by omega)) (by omega),below_setRow (below_setRow C5.gg _ (by omega) _) _ (by omega) _⟩
abbrev trZ:Array Value:=treeA 0 (.slice none 0 0) 0
theorem FS.setRow{w wr:World}{o:Opt}(h:FS w o wr){g:Nat}(hp:w.heap.size+3<=g)(x:Array Value):FS w o (wr.setRow g x):=
 ⟨below_setRow h.gg _ (by omega) _,(setRow_other _ _ _ _ (by omega)).trans h.ob,(setRow_other _ _ _ _ (by omega)).trans h.tr,(setRow_other _ _ _ _ (by omega)).trans h.rt⟩
abbrev fa5:Array Value:=#[.int .i64 5,.int .i64 0]
structure GS (w:World) (o:Opt) (a:Nat) (cs fc:Array Value) (wr:World):Prop where
 fs:FS w o wr
 tb:wr.heap[a]?=some (.cells cs 90 (0,0))
 fb:wr.heap[a+1]?=some (.cells fc 40 (0,0))
 ha:w.heap.size+3<=a
theorem yI2{w W:World}{o:Opt}(C:FS w o W):GS w o W.heap.size trZ faZ ((W.alloc (.cells trZ 90)).alloc (.cells faZ 40)):=by
 have H5:(W.alloc (.cells trZ 90)).heap.size=W.heap.size+1:=Y4 _ _;refine⟨C.bel (bal (bal z8 _) _),(heap_alloc_old _ _ (by rw[H5];omega)).trans (heap_alloc_new _ _),?_,C.big⟩;rw[<-H5];exact heap_alloc_new _ _
theorem GS.bel{w wr:World}{o:Opt}{a:Nat}{cs fc:Array Value}(h:GS w o a cs fc wr){w':World}(hb:Below wr.heap.size wr w'):GS w o a cs fc w':=⟨h.fs.bel hb,blkQ h.tb hb,blkQ h.fb hb,h.ha⟩
theorem GS.set{w wr:World}{o:Opt}{a:Nat}{cs fc:Array Value}(h:GS w o a cs fc wr)(x y:Array Value):GS w o a x y ((wr.setRow a x).setRow (a+1) y):=
 ⟨(h.fs.setRow h.ha x).setRow (by have:=h.ha;omega) _,(setRow_other _ _ _ _ (by omega)).trans (setRow_heap _ _ _ _ _ _ h.tb),setRow_heap _ _ _ _ _ _ ((setRow_other _ _ _ _ (by omega)).trans h.fb),h.ha⟩
theorem GS.fb1{w wr:World}{o:Opt}{a:Nat}{cs fc:Array Value}(h:GS w o a cs fc wr)(x:Array Value):(wr.setRow a x).heap[a+1]?=some (.cells fc 40 (0,0)):=(setRow_other _ _ _ _ (by omega)).trans h.fb
theorem GS.flt{w wr:World}{o:Opt}{a:Nat}{cs:Array Value}(h:GS w o a cs faZ wr):wr.cell? ⟨a+1,0,none⟩=some (.int .i64 0)/\wr.cell? ⟨a+1,1,none⟩=some (.int .i64 0):=⟨(zL h.fb 0 _ rfl).1,(zL h.fb 1 _ rfl).1⟩
theorem GS.knd{w wr:World}{o:Opt}{K z:Int}{a:Nat}{u:Value}{fc:Array Value}(h:GS w o a (treeA K u z) fc wr):wr.cell? ⟨a,0,none⟩=some (.int .i64 K)/\wr.frozen? ⟨a,0,none⟩=false:=zL h.tb 0 _ rfl
theorem GS.kind{w wr:World}{o:Opt}{z:Int}{a:Nat}{u:Value}{fc:Array Value}(h:GS w o a (treeA 0 u z) fc wr)(K:Int):GS w o a (treeA K u z) fc (wr.setCell ⟨a,0,none⟩ (.int .i64 K)):=
 ⟨h.fs.cell (p:=⟨a,0,none⟩) h.ha _,(Go.Lib.heap_setCell_same (i:=0) h.tb (.int .i64 K)).trans rfl,(Below.heap_setCell _ _ _ _ (by show a+1≠a;omega)).trans h.fb,h.ha⟩
theorem GS.own{w wr:World}{o:Opt}{a:Nat}{cs fc:Array Value}(h:GS w o a cs fc wr):a+1<wr.heap.size:=(Array.getElem?_eq_some_iff.1 h.fb).1
theorem GS.kindK{w wr:World}{o:Opt}{z:Int}{a:Nat}{u:Value}{fc:Array Value}(h:GS w o a (treeA 0 u z) fc wr):GS w o a (treeA (o.k:Int) u z) fc (wr.setCell ⟨a,0,none⟩ (.int .i64 (o.k:Int))):=h.kind (o.k:Int)
theorem fa5One:fa5.all (·.oneCell')=true:=by kernel_rfl
theorem infoF5:(Tryz.prog.info? 40).map (·.size)=some fa5.size:=by show _=some 2;kernel_rfl
theorem yCy(o:Opt)(H8:4<=o.k)(H7:o.k<8)(l:List Pc)(c:Int)(w:World)(S:ByteArray)(kp:∀wr,FS w o wr->Calls prog 57 #[.int .i64 (o.k:Int),.string S,.agg o.c] wr (FReadG l 0 c wr)):
 Calls prog 39 #[.string S,.agg o.c] w (FReadG l (o.k:Int) c w):=by
 obtain⟨W,hW,C⟩:=y7j w o;have kb:=fun w=>y0a 0 0 w
 rw[show(!decide ((0:Int)=0))=false from rfl]at kb;obtain⟨k,fb,g,bu⟩:=o;simp only at H8 H7;have G0:=yI2 C;have G1:=G0.set trZ fa5;obtain⟨W1,H5⟩:∃W1,W1=(((W.alloc (.cells trZ 90)).alloc (.cells faZ 40)).setRow W.heap.size trZ).setRow (W.heap.size+1) fa5:=⟨_,rfl⟩;rw[<-H5]at G1;have He:=C.big;obtain⟨d0,d1,d2,d3⟩:=C.opt;obtain⟨g0,g1,g2,g3⟩:=G1.fs.opt;have KP:=z7 kp;have KB:=z7 kb;have KW:=z7 hW;have KW1:=z7 H5;clear kp kb hW H5;rcases(by omega:k=4\/k=5\/k=6\/k=7)with rfl|rfl|rfl|rfl
 all_goals (
  clear H8 H7
  go_enter func39,ntmps39
  go_upto_region 1 with fail
  rw[<-KW.out]
  go_upto_region 7 with fail
  go_upto_region 9 with(first
   | (refine Go.wpList_store_row rfl 90 _ _ rfl W.heap.size trZ rfl rfl 90 _ G0.tb (infoTr _ _ _) rfl (y3R _ _ _ _ _) ?_)
   | (refine Go.wpList_store_row rfl 40 _ _ rfl (W.heap.size+1) fa5 rfl rfl 40 faZ (G0.fb1 _) infoF5 rfl fa5One ?_))
  rw[<-KW1.out]
  go_upto_region 20 with(first
   | (go_at_call 57;refine(KP.out _ G1.fs).mono ?_;rintro e1 w1 ⟨u,rfl,hu,Hc⟩;have G2:=G1.bel Hc;obtain⟨ua,uc,rfl⟩:=zN hu)
   | (refine Go.wpList_store_row rfl 90 _ _ rfl W.heap.size (treeA 0 (.slice ua l.length uc) c) rfl rfl 90 _ G2.tb (infoTr _ _ _) rfl (y3R _ _ _ _ _) ?_)
   | (refine Go.wpList_store_row rfl 40 _ _ rfl (W.heap.size+1) faZ rfl rfl 40 fa5 (G2.fb1 _) infoFa rfl faOne ?_))
  have G3:=G2.set (treeA 0 (.slice ua l.length uc) c) faZ;have Hd:=G1.own;have H6:=zx (zx hu (treeA 0 (.slice ua l.length uc) c) (g:=W.heap.size) (by omega)) faZ (g:=W.heap.size+1) (by omega);obtain⟨X3,Ha⟩:∃X3,X3=(w1.setRow W.heap.size (treeA 0 (.slice ua l.length uc) c)).setRow (W.heap.size+1) faZ:=⟨_,rfl⟩;rw[<-Ha]at G3 H6 ⊢;clear Ha;obtain⟨f0,f1⟩:=G3.flt
  go_upto_region 23 with(go_at_call 11;refine(KB.out _).mono ?_;rintro e2 w2 ⟨rfl,H9⟩;have G4:=G3.bel H9;obtain⟨k0,k0'⟩:=G4.knd)
  have G5:=G4.kindK;have Hb:=fun x=>y1z (zK H6 H9) (p:=⟨W.heap.size,0,none⟩) x (by show W.heap.size<_;omega)
  go_wp2_with (first
   | (refine wpList_load_row rfl 90 _ rfl W.heap.size rfl 90 _ (0,0) _ G5.tb underlying90 rfl (infoTr _ _ _) ?_)
   | (refine Go.wpList_store_row rfl 90 _ _ rfl (w.heap.size+1) _ rfl rfl 90 _ G5.fs.tr (infoTr _ _ _) rfl (y3R _ _ _ _ _) ?_)
   | (refine Go.wpList_store_row rfl 40 _ _ rfl (w.heap.size+2) faZ rfl rfl 40 faZ ((setRow_other _ _ _ _ (by omega)).trans G5.fs.rt) infoFa rfl faOne ?_))
  refine bodyPost_ret (y2j rfl _ _ (w.heap.size+1) (w.heap.size+2) 90 40 _ faZ (0,0) (0,0) _ _ rfl rfl ((setRow_other _ _ _ _ (by omega)).trans (setRow_heap _ _ _ _ _ _ G5.fs.tr)) (setRow_heap _ _ _ _ _ _ ((setRow_other _ _ _ _ (by omega)).trans G5.fs.rt)) underlying90 rfl (infoTr _ _ _) underlying40 rfl infoFa) rfl ?_;exact⟨_,rfl,zd (zx (zx (Hb _) _ (by omega)) _ (by omega)) (by omega),below_setRow (below_setRow G5.fs.gg _ (by omega) _) _ (by omega) _⟩)
def knoB(k:Int):Bool:=decide (1<=k)&&decide (k<=7)
def rigB(k fb bu:Int):Bool:=(decide (k=0) || knoB k)&&decide (0<=fb/\fb<=6)&&(decide (0<=bu)&&decide (bu<=268435456))
theorem yFQ(k:Int)(w:World):Calls prog 13 #[.int .i64 k] w fun e w'=>e=.returned (.bool (knoB k))/\Below w.heap.size w w':=by
 go_enter func13,ntmps13
 go_wp2
 all_goals go_ret
 all_goals (refine⟨y03 ?_,z8⟩;unfold knoB;rw[Bool.eq_iff_iff];simp;omega)
theorem y56(k fb:Int)(g:Bool)(bu:Int)(w:World):Calls prog 6 #[.agg (opG k fb g bu)] w fun e w'=>e=.returned (.bool (rigB k fb bu))/\Below w.heap.size w w':=by
 obtain⟨W,hW⟩:∃W,W=w.alloc (.cells (opG k fb g bu) 25):=⟨_,rfl⟩;have H8:Below w.heap.size w W:=by rw[hW];exact bal z8 _
 have hb:W.heap[w.heap.size]?=some (.cells (opG k fb g bu) 25 (0,0)):=by rw[hW];exact heap_alloc_new _ _
 have KF:=z7 (fun w' (h:Below W.heap.size W w')=>(⟨(zL (blkQ hb h) 0 _ rfl).1,(zL (blkQ hb h) 1 _ rfl).1,(zL (blkQ hb h) 3 _ rfl).1⟩:w'.cell? ⟨w.heap.size,0,none⟩=some (.int .i64 k)/\w'.cell? ⟨w.heap.size,1,none⟩=some (.int .i64 fb)/\w'.cell? ⟨w.heap.size,3,none⟩=some (.int .i64 bu)));obtain⟨m0,m1,m3⟩:=KF.out W z8;have HW:=z7 hW;have HB:=z7 H8;obtain⟨q,hq⟩:∃q,q=knoB k:=⟨_,rfl⟩;obtain⟨r,hr⟩:∃r,r=decide (0<=fb/\fb<=6):=⟨_,rfl⟩;have k1:=fun w'=>yFQ k w'
 have k2:=fun w'=>y2N fb w'
 unfold rigB;rw[<-hq]at k1 ⊢;rw[<-hr]at k2 ⊢;have K1:=z7 k1;have K2:=z7 k2;clear k1 k2 hq hr hb hW H8;have H9:((k==0)=true/\k=0)\/((k==0)=false/\¬k=0):=by
  by_cases h:k=0
  . exact .inl ⟨by rw[h];rfl,h⟩
  . exact .inr ⟨by rw[Y2];exact h,h⟩
 rcases H9 with⟨h0,h1⟩|⟨h0,h1⟩
 . rw[decide_eq_true h1,Bool.true_or,Bool.true_and]
   cases r with
   | false=>
    clear h1
    go_enter func6,ntmps6
    go_upto_region 1 with fail
    rw[<-HW.out]
    go_wp2_with (go_at_call 14;refine(K2.out _).mono ?_;rintro e w2 ⟨rfl,H6⟩;obtain⟨a0,a1,a3⟩:=KF.out w2 H6)
    all_goals go_ret
    all_goals exact⟨rfl,HB.out.trans (H6.mono HB.out.size)⟩
   | true=>
    rw[Bool.true_and];clear h1
    go_enter func6,ntmps6
    go_upto_region 1 with fail
    rw[<-HW.out]
    go_wp2_with (go_at_call 14;refine(K2.out _).mono ?_;rintro e w2 ⟨rfl,H6⟩;obtain⟨a0,a1,a3⟩:=KF.out w2 H6)
    all_goals go_ret
    all_goals (refine⟨y03 ?_,HB.out.trans (H6.mono HB.out.size)⟩;rw[Bool.eq_iff_iff];simp;omega)
 . rw[decide_eq_false h1,Bool.false_or]
   cases q with
   | false=>
    clear h1
    go_enter func6,ntmps6
    go_upto_region 1 with fail
    rw[<-HW.out]
    go_wp2_with (go_at_call 13;refine(K1.out _).mono ?_;rintro e w1 ⟨rfl,H7⟩;obtain⟨b0,b1,b3⟩:=KF.out w1 H7)
    all_goals go_ret
    all_goals exact⟨rfl,HB.out.trans (H7.mono HB.out.size)⟩
   | true=>
    rw[Bool.true_and];cases r with
    | false=>
     clear h1
     go_enter func6,ntmps6
     go_upto_region 1 with fail
     rw[<-HW.out]
     go_wp2_with (first
      | (go_at_call 13;refine(K1.out _).mono ?_;rintro e w1 ⟨rfl,H7⟩;obtain⟨b0,b1,b3⟩:=KF.out w1 H7)
      | (go_at_call 14;refine(K2.out _).mono ?_;rintro e w2 ⟨rfl,H6⟩;have H5:=bt H7 H6;obtain⟨a0,a1,a3⟩:=KF.out w2 H5))
     all_goals go_ret
     all_goals exact⟨rfl,HB.out.trans (H5.mono HB.out.size)⟩
    | true=>
     rw[Bool.true_and];clear h1
     go_enter func6,ntmps6
     go_upto_region 1 with fail
     rw[<-HW.out]
     go_wp2_with (first
      | (go_at_call 13;refine(K1.out _).mono ?_;rintro e w1 ⟨rfl,H7⟩;obtain⟨b0,b1,b3⟩:=KF.out w1 H7)
      | (go_at_call 14;refine(K2.out _).mono ?_;rintro e w2 ⟨rfl,H6⟩;have H5:=bt H7 H6;obtain⟨a0,a1,a3⟩:=KF.out w2 H5))
     all_goals go_ret
     all_goals (refine⟨y03 ?_,HB.out.trans (H5.mono HB.out.size)⟩;rw[Bool.eq_iff_iff];simp;omega)
