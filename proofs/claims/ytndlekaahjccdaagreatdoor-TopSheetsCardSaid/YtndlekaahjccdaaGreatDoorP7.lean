/- P7 -/
import Derived.Test.YtndlekaahjccdaaGreatDoorP6
import Derived.Shelf.SlSortCmp.WholeK
import Derived.Shelf.SlSorted.Search
set_option linter.all false
set_option maxRecDepth 100000
set_option maxHeartbeats 40000000
set_option maxHeartbeats 4000000
namespace Go.Proofs.YtndlekaahjccdaaGreatDoor
open Go.RowKit Go.Proofs.Tryz
theorem y8R(p:Int)(hp:Scal p)(w:World):Calls prog 38 #[.int .i32 p] w fun e w'=>e=.returned (.string ⟨(encR p).toArray⟩)/\Below w.heap.size w w':=by
 obtain⟨p0,p1,p2⟩:=hp;by_cases c1:p<128
 . skip
   obtain⟨b0,h0⟩:∃b:UInt8,p=(b.toNat:Int):=⟨UInt8.ofNat (p).toNat,by rw[UInt8.toNat_ofNat'];omega⟩;have he:encR p = [b0]:=by
    unfold encR Lib.encodeRune;rw[Lib.encodeRuneZ_one p0 (by omega)];simp only[List.map_cons,List.map_nil];rw[Lib.toByte _ b0 h0]
   have H5:∀W:World,(convert 94 9 (.slice (some ⟨W.heap.size,0,none⟩) 1 1)).run prog (W.alloc (.cells #[.int .u8 (b0.toNat:Int)] 5))=.ok (.string ⟨#[b0]⟩) (W.alloc (.cells #[.int .u8 (b0.toNat:Int)] 5)):=by
    intro W;exact y2T (l:=[b0]) 94 9 underlying94 underlying5 underlying9 (World.ownsRow_lit (size:=1) (base:=W.heap.size) W #[.int .u8 (b0.toNat:Int)] 1 (zA) (by unfold maxLen;omega) rfl)
   have k0:=b0.toNat_lt;subst h0;rw[he];have HE:=z7 he;clear he
   go_enter func38,ntmps38
   go_wp2
   go_ret
   exact⟨rfl,bal (z8) _⟩
 by_cases c2:p<2048
 . skip
   obtain⟨b0,h0⟩:∃b:UInt8,192+p/64=(b.toNat:Int):=⟨UInt8.ofNat (192+p/64).toNat,by rw[UInt8.toNat_ofNat'];omega⟩;obtain⟨b1,h1⟩:∃b:UInt8,128+p%64=(b.toNat:Int):=⟨UInt8.ofNat (128+p%64).toNat,by rw[UInt8.toNat_ofNat'];omega⟩;have he:encR p = [b0,b1]:=by
    unfold encR Lib.encodeRune;rw[Lib.encodeRuneZ_two (by omega) (by omega)];simp only[List.map_cons,List.map_nil];rw[Lib.toByte _ b0 h0,Lib.toByte _ b1 h1]
   have H5:∀W:World,(convert 94 9 (.slice (some ⟨W.heap.size,0,none⟩) 2 2)).run prog (W.alloc (.cells #[.int .u8 (b0.toNat:Int),.int .u8 (b1.toNat:Int)] 5))=.ok (.string ⟨#[b0,b1]⟩) (W.alloc (.cells #[.int .u8 (b0.toNat:Int),.int .u8 (b1.toNat:Int)] 5)):=by
    intro W;exact y2T (l:=[b0,b1]) 94 9 underlying94 underlying5 underlying9 (World.ownsRow_lit (size:=1) (base:=W.heap.size) W #[.int .u8 (b0.toNat:Int),.int .u8 (b1.toNat:Int)] 2 (zA) (by unfold maxLen;omega) rfl)
   have k0:=b0.toNat_lt;have k1:=b1.toNat_lt;rw[he];have HE:=z7 he;clear he
   go_enter func38,ntmps38
   go_wp2
   go_ret
   exact⟨rfl,bal (z8) _⟩
 by_cases c3:p<65536
 . skip
   obtain⟨b0,h0⟩:∃b:UInt8,224+p/4096=(b.toNat:Int):=⟨UInt8.ofNat (224+p/4096).toNat,by rw[UInt8.toNat_ofNat'];omega⟩;obtain⟨b1,h1⟩:∃b:UInt8,128+p/64%64=(b.toNat:Int):=⟨UInt8.ofNat (128+p/64%64).toNat,by rw[UInt8.toNat_ofNat'];omega⟩;obtain⟨b2,h2⟩:∃b:UInt8,128+p%64=(b.toNat:Int):=⟨UInt8.ofNat (128+p%64).toNat,by rw[UInt8.toNat_ofNat'];omega⟩;have he:encR p = [b0,b1,b2]:=by
    unfold encR Lib.encodeRune;rw[Lib.encodeRuneZ_three (by omega)];simp only[List.map_cons,List.map_nil];rw[Lib.toByte _ b0 h0,Lib.toByte _ b1 h1,Lib.toByte _ b2 h2]
   have H5:∀W:World,(convert 94 9 (.slice (some ⟨W.heap.size,0,none⟩) 3 3)).run prog (W.alloc (.cells #[.int .u8 (b0.toNat:Int),.int .u8 (b1.toNat:Int),.int .u8 (b2.toNat:Int)] 5))=.ok (.string ⟨#[b0,b1,b2]⟩) (W.alloc (.cells #[.int .u8 (b0.toNat:Int),.int .u8 (b1.toNat:Int),.int .u8 (b2.toNat:Int)] 5)):=by
    intro W;exact y2T (l:=[b0,b1,b2]) 94 9 underlying94 underlying5 underlying9 (World.ownsRow_lit (size:=1) (base:=W.heap.size) W #[.int .u8 (b0.toNat:Int),.int .u8 (b1.toNat:Int),.int .u8 (b2.toNat:Int)] 3 (zA) (by unfold maxLen;omega) rfl)
   have k0:=b0.toNat_lt;have k1:=b1.toNat_lt;have k2:=b2.toNat_lt;rw[he];have HE:=z7 he;clear he
   go_enter func38,ntmps38
   go_wp2
   go_ret
   exact⟨rfl,bal (z8) _⟩
 . skip
   obtain⟨b0,h0⟩:∃b:UInt8,240+p/262144=(b.toNat:Int):=⟨UInt8.ofNat (240+p/262144).toNat,by rw[UInt8.toNat_ofNat'];omega⟩;obtain⟨b1,h1⟩:∃b:UInt8,128+p/4096%64=(b.toNat:Int):=⟨UInt8.ofNat (128+p/4096%64).toNat,by rw[UInt8.toNat_ofNat'];omega⟩;obtain⟨b2,h2⟩:∃b:UInt8,128+p/64%64=(b.toNat:Int):=⟨UInt8.ofNat (128+p/64%64).toNat,by rw[UInt8.toNat_ofNat'];omega⟩;obtain⟨b3,h3⟩:∃b:UInt8,128+p%64=(b.toNat:Int):=⟨UInt8.ofNat (128+p%64).toNat,by rw[UInt8.toNat_ofNat'];omega⟩;have he:encR p = [b0,b1,b2,b3]:=by
    unfold encR Lib.encodeRune;rw[Lib.encodeRuneZ_four (by omega) p1];simp only[List.map_cons,List.map_nil];rw[Lib.toByte _ b0 h0,Lib.toByte _ b1 h1,Lib.toByte _ b2 h2,Lib.toByte _ b3 h3]
   have H5:∀W:World,(convert 94 9 (.slice (some ⟨W.heap.size,0,none⟩) 4 4)).run prog (W.alloc (.cells #[.int .u8 (b0.toNat:Int),.int .u8 (b1.toNat:Int),.int .u8 (b2.toNat:Int),.int .u8 (b3.toNat:Int)] 5))=.ok (.string ⟨#[b0,b1,b2,b3]⟩) (W.alloc (.cells #[.int .u8 (b0.toNat:Int),.int .u8 (b1.toNat:Int),.int .u8 (b2.toNat:Int),.int .u8 (b3.toNat:Int)] 5)):=by
    intro W;exact y2T (l:=[b0,b1,b2,b3]) 94 9 underlying94 underlying5 underlying9 (World.ownsRow_lit (size:=1) (base:=W.heap.size) W #[.int .u8 (b0.toNat:Int),.int .u8 (b1.toNat:Int),.int .u8 (b2.toNat:Int),.int .u8 (b3.toNat:Int)] 4 (zA) (by unfold maxLen;omega) rfl)
   have k0:=b0.toNat_lt;have k1:=b1.toNat_lt;have k2:=b2.toNat_lt;have k3:=b3.toNat_lt;rw[he];have HE:=z7 he;clear he
   go_enter func38,ntmps38
   go_wp2
   go_ret
   exact⟨rfl,bal (z8) _⟩
def moreM(l:List UInt8)(i:Nat):Int:=match l[i]? with
 | none=>-1
 | some x=>if x.toNat<128\/191<x.toNat then -1 else(x.toNat:Int)-128
theorem y4W(l:List UInt8)(i:Nat):moreM l i = -1\/(0<=moreM l i/\moreM l i<64):=by
 unfold moreM;cases h:l[i]? with
 | none=>exact .inl rfl
 | some x=>
  simp only;split
  . exact .inl rfl
  . right;omega
theorem yHf(s:ByteArray)(i:Nat)(w:World)(hi:i<=1152921504606846976):Calls prog 36 #[.string s,.int .i64 i] w fun e w'=>e=.returned (.int .i32 (moreM (bl s) i))/\w=w':=by
 have hL:=zJ s;by_cases H6:i<s.size
 . obtain⟨x,hx⟩:=zM (bl s) i (by omega)
   have X:∀h,s[i]'h=x:=zS s i x hx;have hm:moreM (bl s) i=if x.toNat<128\/191<x.toNat then -1 else(x.toNat:Int)-128:=by unfold moreM;rw[hx]
   have H5:=x.toNat_lt;have hw:IntKind.u8.wrap ((x.toNat:Int)-128)=if x.toNat<128\/191<x.toNat then IntKind.u8.wrap ((x.toNat:Int)-128)else(x.toNat:Int)-128:=by
    split
    . rfl
    . exact wraps_u8 _ (by omega) (by omega)
   rw[hm];by_cases h1:x.toNat<128
   . rw[if_pos (.inl h1)]
     clear hx hm hL hw
     go_enter func36,ntmps36
     go_wp2
     go_ret
     exact⟨rfl,rfl⟩
   . by_cases h2:191<x.toNat
     . rw[if_pos (.inr h2)]
       clear hx hm hL hw
       go_enter func36,ntmps36
       go_wp2
       go_ret
       exact⟨rfl,rfl⟩
     . rw[if_neg (by omega)]
       rw[if_neg (by omega)]at hw;clear hx hm hL
       go_enter func36,ntmps36
       go_wp2
       go_ret
       exact⟨rfl,rfl⟩
 . have hm:moreM (bl s) i = -1:=by unfold moreM;rw[List.getElem?_eq_none (by omega)]
   rw[hm];clear hm hL
   go_enter func36,ntmps36
   go_wp2
   go_ret
   exact⟨rfl,rfl⟩
def atF(l:List UInt8):Nat->Nat->Int->Option Int
 | 0,_,p=>some p
 | f+1,k,p=>if moreM l k<0 then none else atF l f (k+1) (p*64+moreM l k)
def yAI(c:Nat):Option (Nat×Int):=if 192<=c/\c<224 then some (2,(c:Int)-192)else if 224<=c/\c<240 then some (3,(c:Int)-224)else if 240<=c/\c<248 then some (4,(c:Int)-240)else none
def y5q(n:Nat):Option Int->Int×Nat
 | none=>(0,0)
 | some q=>if scalar q=true/\(encR q).length=n then(q,n)else(0,0)
def y1m:List UInt8->Int×Nat
 | []=>(0,0)
 | x::r=>if x.toNat<128 then(x.toNat,1)else match yAI x.toNat with
  | none=>(0,0)
  | some (n,p)=>y5q n (atF (x::r) (n-1) 1 p)
theorem yFA(l:List UInt8)(i k:Nat):moreM (l.drop i) k=moreM l (i+k):=by unfold moreM;rw[List.getElem?_drop]
theorem yJB{q:Int}(h:scalar q=true):Scal q:=by unfold scalar at h;unfold Scal;simpa using h
theorem y7H(p:Int)(w:World):Calls prog 37 #[.int .i32 p] w fun e w'=>e=.returned (.bool (scalar p))/\w=w':=by
 go_enter func37,ntmps37
 go_wp2
 all_goals go_ret
 all_goals (refine⟨y03 ?_,rfl⟩;unfold scalar;rw[Bool.eq_iff_iff];simp;omega)
theorem yIO(s:ByteArray)(i:Nat)(x:UInt8)(n:Nat)(p0:Int)(w:World)(hs:s.size<=1073741824)(hx:(bl s)[i]?=some x)(h8:¬x.toNat<128)(hh:yAI x.toNat=some (n,p0)):
 Calls prog 19 #[.string s,.int .i64 i] w fun e w'=>e=.returned (.tuple #[.int .i32 (y1m ((bl s).drop i)).1,.int .i64 (y1m ((bl s).drop i)).2])/\Below w.heap.size w w':=by
 have hi:=(List.getElem?_eq_some_iff.1 hx).1;have hL:=zJ s;have X:∀h,s[i]'h=x:=zS s i x hx;have hd:=drop_at (bl s) i hi;rw[(List.getElem?_eq_some_iff.1 hx).2]at hd;obtain⟨R,hR⟩:∃R,R=atF ((bl s).drop i) (n-1) 1 p0:=⟨_,rfl⟩;have hm:y1m ((bl s).drop i)=y5q n R:=by
  rw[hR,hd,y1m,if_neg h8,hh]
 rw[hm];have kC:=x.toNat_lt;have kJ:i<s.size:=by omega
 have K1:Hid (∀(k:Nat) w,k<=4->Calls prog 36 #[.string s,.int .i64 ((i:Int)+k)] w fun e w'=>e=.returned (.int .i32 (moreM ((bl s).drop i) k))/\w=w'):=by
  intro k w hk;have:=yHf s (i+k) w (by omega);rw[Int.natCast_add,<-yFA]at this;exact this
 have K2:=z7 (fun p w=>y7H p w);have K3:=z7 (fun p hp w=>y8R p hp w);have hn:2<=n/\n<=4/\0<=p0/\p0<32:=by
  unfold yAI at hh;split at hh
  . simp only[Option.some.injEq,Prod.mk.injEq]at hh;omega
  . split at hh
    . simp only[Option.some.injEq,Prod.mk.injEq]at hh;omega
    . split at hh
      . simp only[Option.some.injEq,Prod.mk.injEq]at hh;omega
      . cases hh
 obtain⟨n2,n4,p00,p01⟩:=hn;have hcut:∀(q:Int) (k:Nat),1<=k->k<=n->Hid (atF ((bl s).drop i) (n-k) k q=R)->k<n->Hid (atF ((bl s).drop i) (n-k) k q=if moreM ((bl s).drop i) k<0 then none else atF ((bl s).drop i) (n-(k+1)) (k+1) (q*64+moreM ((bl s).drop i) k)):=by
  intro q k h1 h2 h3 h4;obtain⟨f,hf⟩:∃f,n-k=f+1:=⟨n-k-1,by omega⟩;have HQ:n-(k+1)=f:=by omega
  rw[hf,HQ];rfl
 have Hk:=y4W ((bl s).drop i);obtain⟨l,hl⟩:∃l,l=(bl s).drop i:=⟨_,rfl⟩;rw[<-hl]at hR K1 hcut Hk;have HR:=z7 hR;have HL:=z7 hL;have Hm:=z7 hcut;have kA:=z7 Hk;clear hR hL hcut Hk;clear hm hd hx hl;unfold yAI at hh;have main:∀(c0 c1:Nat),192<=c0->c0<=x.toNat->x.toNat<c1->((c0=192/\c1=224/\n=2)\/(c0=224/\c1=240/\n=3)\/(c0=240/\c1=248/\n=4))->p0=(x.toNat:Int)-c0 ->
  Calls prog 19 #[.string s,.int .i64 i] w fun e w'=>e=.returned (.tuple #[.int .i32 (y5q n R).1,.int .i64 (y5q n R).2])/\Below w.heap.size w w':=by
  clear hh;rintro c0 c1 a0 a1 a2 a3 rfl;rcases a3 with⟨rfl,rfl,hn⟩|⟨rfl,rfl,hn⟩|⟨rfl,rfl,hn⟩
  all_goals
   have kK:decide ((x.toNat:Int)<128)=false:=by simp;omega
   have Hr:decide ((x.toNat:Int) ≥ 192)=true:=by simp;omega
   have Hq:decide (192<=(x.toNat:Int))=true:=by simp;omega
   first|have Hf:decide ((x.toNat:Int) ≥ 224)=true:=by(simp;omega)|have Hf:decide ((x.toNat:Int) ≥ 224)=false:=by(simp;omega)
   first|have Hd:decide (224<=(x.toNat:Int))=true:=by(simp;omega)|have Hd:decide (224<=(x.toNat:Int))=false:=by(simp;omega)
   first|have He:decide ((x.toNat:Int) ≥ 240)=true:=by(simp;omega)|have He:decide ((x.toNat:Int) ≥ 240)=false:=by(simp;omega)
   first|have Hc:decide (240<=(x.toNat:Int))=true:=by(simp;omega)|have Hc:decide (240<=(x.toNat:Int))=false:=by(simp;omega)
   first|have Hb:decide ((x.toNat:Int)<224)=true:=by(simp;omega)|have Hb:decide ((x.toNat:Int)<224)=false:=by(simp;omega)
   first|have Ha:decide ((x.toNat:Int)<240)=true:=by(simp;omega)|have Ha:decide ((x.toNat:Int)<240)=false:=by(simp;omega)
   have Ho:decide ((x.toNat:Int)<248)=true:=by simp;omega
   have HN:=z7 hn;clear hn
   go_enter func19,ntmps19
   go_wp2
   go_loop [8,9] (fun pv kv=>∃(k:Nat) (q:Int),kv=.int .i64 (k:Int)/\pv=.int .i32 q/\1<=k/\k<=n/\Hid (atF l (n-k) k q=R)/\0<=q/\((k=1/\q<32)\/(k=2/\q<2048)\/(k=3/\q<131072)\/(k=4/\q<8388608))) (fun _ kv=>n-(intOf kv).toNat)
   case atStart=>exact⟨1,_,rfl,rfl,by omega,by omega,z7 HR.out.symm,by omega,.inl ⟨rfl,by omega⟩⟩
   case round=>
    obtain⟨k,q,rfl,rfl,Hz,Hy,hQ,kI,Hi⟩:=hrel;by_cases Hv:k<n
    . have hc:=(Hm.out q k Hz Hy hQ Hv).out
      first|have Hp:k<2:=by(have:=HN.out;omega)|have Hp:k<3:=by(have:=HN.out;omega)|have Hp:k<4:=by(have:=HN.out;omega)
      have hb:=kA.out k;have k1:=fun w=>K1.out k w (by omega)
      generalize moreM l k=m at *;by_cases hm:m<0
      . rw[if_pos hm]at hc
        have Hs:R=none:=by rw[<-hQ.out,hc]
        have kx:=z7 Hs;have K1':=z7 k1;have HC:=z7 hc;clear Hs k1 hc;clear hb hQ
        go_wp2_with (go_at_call 36;refine(K1'.out _).mono ?_;rintro e w1 ⟨rfl,rfl⟩)
        go_ret2
        exact⟨by rw[kx.out];rfl,z8⟩
      . rw[if_neg hm]at hc
        have Ht:atF l (n-(k+1)) (k+1) (q*64+m)=R:=by rw[<-hc];exact hQ.out
        obtain⟨m0,m1⟩:0<=m/\m<64:=by omega
        have kH:q<131072:=by omega
        have kF:IntKind.i32.wrap (q*64)=q*64:=wraps_i32 _ (by omega) (by omega);have kD:IntKind.i32.wrap (q*64+m)=q*64+m:=wraps_i32 _ (by omega) (by omega);have H9:((k+1=1/\q*64+m<32)\/(k+1=2/\q*64+m<2048)\/(k+1=3/\q*64+m<131072)\/(k+1=4/\q*64+m<8388608)):=by omega
        have kz:=z7 Ht;have K1':=z7 k1;have HC:=z7 hc;have ky:=z7 H9;clear Ht k1 hc H9;clear hb hQ Hi
        go_wp2_with (go_at_call 36;refine(K1'.out _).mono ?_;rintro e w1 ⟨rfl,rfl⟩)
        go_round
        case rel=>exact⟨k+1,q*64+m,by go_num,rfl,by omega,by omega,kz,by omega,ky.out⟩
        case measure=>simp[intOf];omega
    . have H8:R=some q:=by rw[<-hQ.out,show n-k=0 by omega];rfl
      have Hw:k=n:=by omega
      first|have Hj:k=2:=(by have:=HN.out;omega)|have Hj:k=3:=(by have:=HN.out;omega)|have Hj:k=4:=(by have:=HN.out;omega)
      subst Hj;have k2:=fun w=>K2.out q w
      cases H5:scalar q with
      | false=>
       have he:y5q n (some q)=(0,0):=by unfold y5q;simp[H5]
       rw[H5]at k2;have HE:=z7 he;have Hg:=z7 H8;have K2':=z7 k2;have Hu:=z7 H5;clear he H8 k2 H5;clear hQ Hi
       go_wp2_with (go_at_call 37;refine(K2'.out _).mono ?_;rintro e w1 ⟨rfl,rfl⟩)
       go_ret2
       exact⟨by rw[Hg.out,HE.out];rfl,z8⟩
      | true=>
       rw[H5]at k2;have hS:Scal q:=yJB H5;have k3:=fun w=>K3.out q hS w
       obtain⟨tb,Hh⟩:∃tb:ByteArray,tb=⟨(encR q).toArray⟩:=⟨_,rfl⟩;have H7:tb.size=(encR q).length:=by rw[Hh];rfl
       rw[<-Hh]at k3;by_cases Hn:tb.size=n
       . have he:y5q n (some q)=(q,n):=by unfold y5q;simp[H5,<-H7,Hn]
         first|have H6:tb.size=2:=by(have:=HN.out;omega)|have H6:tb.size=3:=by(have:=HN.out;omega)|have H6:tb.size=4:=by(have:=HN.out;omega)
         have HE:=z7 he;have Hg:=z7 H8;have K2':=z7 k2;have K3':=z7 k3;have Hu:=z7 H5;have k9:=z7 H7;clear he H8 k2 k3 H5 H7;clear hQ Hi hS Hh
         go_wp2_with (first
          | (go_at_call 37;refine(K2'.out _).mono ?_;rintro e w1 ⟨rfl,rfl⟩)
          | (go_at_call 38;refine(K3'.out _).mono ?_;rintro e w2 ⟨rfl,Hl⟩))
         go_ret2
         exact⟨by rw[Hg.out,HE.out];first|rfl|(rw[HN.out];rfl),Hl⟩
       . have he:y5q n (some q)=(0,0):=by unfold y5q;simp[H5,<-H7,Hn]
         first|have H6:¬(tb.size:Int)=2:=by(have:=HN.out;omega)|have H6:¬(tb.size:Int)=3:=by(have:=HN.out;omega)|have H6:¬(tb.size:Int)=4:=by(have:=HN.out;omega)
         have HE:=z7 he;have Hg:=z7 H8;have K2':=z7 k2;have K3':=z7 k3;have Hu:=z7 H5;have k9:=z7 H7;clear he H8 k2 k3 H5 H7;clear hQ Hi hS Hh
         go_wp2_with (first
          | (go_at_call 37;refine(K2'.out _).mono ?_;rintro e w1 ⟨rfl,rfl⟩)
          | (go_at_call 38;refine(K3'.out _).mono ?_;rintro e w2 ⟨rfl,Hl⟩))
         go_ret2
         exact⟨by rw[Hg.out,HE.out];first|rfl|(rw[HN.out];rfl),Hl⟩
 split at hh
 . rename_i hc
   simp only[Option.some.injEq,Prod.mk.injEq]at hh;exact main 192 224 (by omega) hc.1 hc.2 (.inl ⟨rfl,rfl,hh.1.symm⟩) hh.2.symm
 . split at hh
   . rename_i hc
     simp only[Option.some.injEq,Prod.mk.injEq]at hh;exact main 224 240 (by omega) hc.1 hc.2 (.inr (.inl ⟨rfl,rfl,hh.1.symm⟩)) hh.2.symm
   . split at hh
     . rename_i hc
       simp only[Option.some.injEq,Prod.mk.injEq]at hh;exact main 240 248 (by omega) hc.1 hc.2 (.inr (.inr ⟨rfl,rfl,hh.1.symm⟩)) hh.2.symm
     . cases hh
theorem yEP(s:ByteArray)(i:Nat)(w:World)(hs:s.size<=1073741824)(hi:i<s.size):
 Calls prog 19 #[.string s,.int .i64 i] w fun e w'=>e=.returned (.tuple #[.int .i32 (y1m ((bl s).drop i)).1,.int .i64 (y1m ((bl s).drop i)).2])/\Below w.heap.size w w':=by
 have hL:=zJ s;obtain⟨x,hx⟩:=zM (bl s) i (by omega);by_cases h8:x.toNat<128
 . have X:∀h,s[i]'h=x:=zS s i x hx
   have hd:=drop_at (bl s) i (List.getElem?_eq_some_iff.1 hx).1;rw[(List.getElem?_eq_some_iff.1 hx).2]at hd;have hm:y1m ((bl s).drop i)=((x.toNat:Int),1):=by rw[hd,y1m,if_pos h8]
   rw[hm];clear hm hd hx hL
   go_enter func19,ntmps19
   go_wp2
   go_ret2
   exact⟨rfl,z8⟩
 . cases hh:yAI x.toNat with
   | some np=>exact yIO s i x np.1 np.2 w hs hx h8 hh
   | none=>
    have X:∀h,s[i]'h=x:=zS s i x hx;have hd:=drop_at (bl s) i (List.getElem?_eq_some_iff.1 hx).1;rw[(List.getElem?_eq_some_iff.1 hx).2]at hd;have hm:y1m ((bl s).drop i)=(0,0):=by rw[hd,y1m,if_neg h8,hh]
    rw[hm];have H5:=x.toNat_lt;have hr:x.toNat<192\/248<=x.toNat:=by
     unfold yAI at hh;split at hh
     . cases hh
     . split at hh
       . cases hh
       . split at hh
         . cases hh
         . omega
    clear hm hd hx hL hh;rcases hr with hr|hr
    all_goals (
     go_enter func19,ntmps19
     go_wp2
     go_ret2
     exact⟨rfl,z8⟩)
theorem yA2(l:List UInt8)(k:Nat)(h:0<=moreM l k):k<l.length/\(l.getD k 0).toNat/64=2/\moreM l k=((l.getD k 0).toNat%64:Nat):=by
 unfold moreM at h ⊢;cases hk:l[k]? with
 | none=>rw[hk]at h;simp at h
 | some x=>
  rw[hk]at h;have hx:=(List.getElem?_eq_some_iff.1 hk).1;have H5:=x.toNat_lt;have e:l.getD k 0=x:=by simp[List.getD,hk]
  rw[e];simp only at h ⊢;split at h
  . omega
  . rename_i hc
    rw[if_neg hc];refine⟨hx,?_,?_⟩<;>omega
theorem y7T(l:List UInt8)(k:Nat)(h:moreM l k<0):¬(k<l.length/\(l.getD k 0).toNat/64=2):=by
 rintro⟨h1,h2⟩;unfold moreM at h;have e:l[k]?=some (l.getD k 0):=by simp[List.getD,h1]
 rw[e]at h;have H5:=(l.getD k 0).toNat_lt;simp only at h;split at h<;>omega
theorem yG7(q:Int)(h:Scal q):(encR q).length=if q<128 then 1 else if q<2048 then 2 else if q<65536 then 3 else 4:=by
 obtain⟨h0,h1,h2⟩:=h;unfold encR Lib.encodeRune;rw[List.length_map];by_cases a:q<128
 . rw[if_pos a,Lib.encodeRuneZ_one h0 (by omega)];rfl
 . rw[if_neg a]
   by_cases b:q<2048
   . rw[if_pos b,Lib.encodeRuneZ_two (by omega) (by omega)];rfl
   . rw[if_neg b]
     by_cases c:q<65536
     . rw[if_pos c,Lib.encodeRuneZ_three (by omega)];rfl
     . rw[if_neg c,Lib.encodeRuneZ_four (by omega) h1];rfl
theorem yG6(n:Nat)(q:Int):y5q n (some q)=if(0<=q/\q<=1114111/\(q<55296\/57343<q))/\(if q<128 then 1 else if q<2048 then 2 else if q<65536 then 3 else 4)=n then(q,n)else(0,0):=by
 show(if scalar q=true/\(encR q).length=n then(q,n)else(0,0))=_;by_cases h:0<=q/\q<=1114111/\(q<55296\/57343<q)
 . have hs:scalar q=true:=by unfold scalar;simpa using h
   rw[yG7 q h];simp only[hs,h,true_and]
 . have hs:scalar q=false:=by unfold scalar;simpa using h
   simp only[hs,h,false_and,if_false,Bool.false_eq_true]
theorem yEO(l:List UInt8)(H6:l ≠ []):y1m l=if y00 l=true then(0,0)else(((dec l).1:Int),(dec l).2):=by
 cases l with
 | nil=>exact absurd rfl H6
 | cons x r=>
  have H7:=x.toNat_lt;have g0:(x::r).getD 0 0=x:=rfl;rw[y1m];by_cases h8:x.toNat<128
  . rw[if_pos h8]
    have hd:dec (x::r)=(x.toNat,1):=by unfold dec Lib.decodeN;rw[g0,if_pos h8]
    have hb:y00 (x::r)=false:=by unfold y00;rw[hd];simp;omega
    rw[hb,hd];rfl
  . rw[if_neg h8]
    have m1:=y4W (x::r) 1;have m2:=y4W (x::r) 2;have m3:=y4W (x::r) 3;have a1:=yA2 (x::r) 1;have a2:=yA2 (x::r) 2;have a3:=yA2 (x::r) 3;have n1:=y7T (x::r) 1;have n2:=y7T (x::r) 2;have n3:=y7T (x::r) 3;unfold y00 dec;rw[g0];generalize (x::r).length=len at *;generalize ((x::r).getD 1 0).toNat=b1 at *;generalize ((x::r).getD 2 0).toNat=b2 at *;generalize ((x::r).getD 3 0).toNat=b3 at *;unfold yAI;by_cases c2:192<=x.toNat/\x.toNat<224
    . rw[if_pos c2]
      simp only[atF];generalize moreM (x::r) 1=w1 at *;by_cases h1:w1<0
      . rw[if_pos h1]
        have:=n1 h1;have hN:Lib.decodeN len x.toNat b1 b2 b3=(65533,1):=by
         unfold Lib.decodeN;rw[if_neg h8,if_neg (by omega),if_neg (by omega),if_neg (by omega)]
        rw[hN];rfl
      . rw[if_neg h1]
        obtain⟨y1,y2,y3⟩:=a1 (by omega);rw[yG6];by_cases hv:x.toNat%32*64+b1%64 ≥ 128
        . have hN:Lib.decodeN len x.toNat b1 b2 b3=(x.toNat%32*64+b1%64,2):=by
           unfold Lib.decodeN;rw[if_neg h8,if_pos ⟨by omega,by omega,by omega⟩,if_pos hv]
          rw[hN,if_pos (by refine⟨by omega,?_⟩;rw[if_neg (by omega),if_pos (by omega)])];rw[if_neg (by simp)];simp only[Prod.mk.injEq,and_true];omega
        . have hN:Lib.decodeN len x.toNat b1 b2 b3=(65533,1):=by
           unfold Lib.decodeN;rw[if_neg h8,if_pos ⟨by omega,by omega,by omega⟩,if_neg hv]
          rw[hN,if_neg (by rintro⟨_,h⟩;rw[if_pos (by omega)]at h;omega)];rfl
    . rw[if_neg c2]
      by_cases c3:224<=x.toNat/\x.toNat<240
      . rw[if_pos c3]
        simp only[atF];generalize moreM (x::r) 1=w1 at *;generalize moreM (x::r) (1+1)=w2 at *;have bad:(¬(1<len/\b1/64=2)\/¬(2<len/\b2/64=2))->Lib.decodeN len x.toNat b1 b2 b3=(65533,1):=by
         intro h;unfold Lib.decodeN;rw[if_neg h8,if_neg (by omega),if_neg (by omega),if_neg (by omega)]
        by_cases h1:w1<0
        . rw[if_pos h1,bad (.inl (n1 h1))];rfl
        . rw[if_neg h1]
          by_cases h2:w2<0
          . rw[if_pos h2,bad (.inr (n2 h2))];rfl
          . rw[if_neg h2]
            obtain⟨y1,y2,y3⟩:=a1 (by omega);obtain⟨z1,z2,z3⟩:=a2 (by omega);rw[yG6];by_cases hv:x.toNat%16*4096+b1%64*64+b2%64 ≥ 2048/\(x.toNat%16*4096+b1%64*64+b2%64<55296\/(57344<=x.toNat%16*4096+b1%64*64+b2%64/\x.toNat%16*4096+b1%64*64+b2%64<=1114111))
            . have hN:Lib.decodeN len x.toNat b1 b2 b3=(x.toNat%16*4096+b1%64*64+b2%64,3):=by
               unfold Lib.decodeN;rw[if_neg h8,if_neg (by omega),if_pos ⟨by omega,⟨by omega,by omega⟩,by omega,by omega⟩,if_pos hv]
              rw[hN,if_pos (by refine⟨by omega,?_⟩;rw[if_neg (by omega),if_neg (by omega),if_pos (by omega)])];rw[if_neg (by simp)];simp only[Prod.mk.injEq,and_true];omega
            . have hN:Lib.decodeN len x.toNat b1 b2 b3=(65533,1):=by
               unfold Lib.decodeN;rw[if_neg h8,if_neg (by omega),if_pos ⟨by omega,⟨by omega,by omega⟩,by omega,by omega⟩,if_neg hv]
              rw[hN,if_neg (by
               rintro⟨h,h'⟩;by_cases q1:x.toNat%16*4096+b1%64*64+b2%64<128
               . rw[if_pos (by omega)]at h';omega
               . rw[if_neg (by omega)]at h'
                 by_cases q2:x.toNat%16*4096+b1%64*64+b2%64<2048
                 . rw[if_pos (by omega)]at h';omega
                 . omega)]
              rfl
      . rw[if_neg c3]
        by_cases c4:240<=x.toNat/\x.toNat<248
        . rw[if_pos c4]
          simp only[atF];generalize moreM (x::r) 1=w1 at *;generalize moreM (x::r) (1+1)=w2 at *;generalize moreM (x::r) (1+1+1)=w3 at *;have bad:(¬(1<len/\b1/64=2)\/¬(2<len/\b2/64=2)\/¬(3<len/\b3/64=2))->Lib.decodeN len x.toNat b1 b2 b3=(65533,1):=by
           intro h;unfold Lib.decodeN;rw[if_neg h8,if_neg (by omega),if_neg (by omega),if_neg (by omega)]
          by_cases h1:w1<0
          . rw[if_pos h1,bad (.inl (n1 h1))];rfl
          . rw[if_neg h1]
            by_cases h2:w2<0
            . rw[if_pos h2,bad (.inr (.inl (n2 h2)))];rfl
            . rw[if_neg h2]
              by_cases h3:w3<0
              . rw[if_pos h3,bad (.inr (.inr (n3 h3)))];rfl
              . rw[if_neg h3]
                obtain⟨y1,y2,y3⟩:=a1 (by omega);obtain⟨z1,z2,z3⟩:=a2 (by omega);obtain⟨u1,u2,u3⟩:=a3 (by omega);rw[yG6];obtain⟨V,hV⟩:∃V,V=x.toNat%8*262144+b1%64*4096+b2%64*64+b3%64:=⟨_,rfl⟩;have hq:(((x.toNat:Int)-240)*64+w1)*64+w2=(((x.toNat:Int)-240)*64+w1)*64+w2:=rfl;have H5:((((x.toNat:Int)-240)*64+w1)*64+w2)*64+w3=(V:Int):=by omega
                rw[H5];by_cases hv:V ≥ 65536/\(V<55296\/(57344<=V/\V<=1114111))
                . have hN:Lib.decodeN len x.toNat b1 b2 b3=(V,4):=by
                   unfold Lib.decodeN;rw[if_neg h8,if_neg (by omega),if_neg (by omega),if_pos ⟨by omega,⟨by omega,by omega⟩,⟨by omega,by omega⟩,by omega,by omega⟩,<-hV,if_pos hv]
                  rw[hN,if_pos (by refine⟨by omega,?_⟩;rw[if_neg (by omega),if_neg (by omega),if_neg (by omega)])];rw[if_neg (by simp)]
                . have hN:Lib.decodeN len x.toNat b1 b2 b3=(65533,1):=by
                   unfold Lib.decodeN;rw[if_neg h8,if_neg (by omega),if_neg (by omega),if_pos ⟨by omega,⟨by omega,by omega⟩,⟨by omega,by omega⟩,by omega,by omega⟩,<-hV,if_neg hv]
                  rw[hN,if_neg (by
                   rintro⟨h,h'⟩;by_cases q1:(V:Int)<128
                   . rw[if_pos q1]at h';omega
                   . rw[if_neg q1]at h'
                     by_cases q2:(V:Int)<2048
                     . rw[if_pos q2]at h';omega
                     . rw[if_neg q2]at h'
                       by_cases q3:(V:Int)<65536
                       . rw[if_pos q3]at h';omega
                       . omega)]
                  rfl
        . rw[if_neg c4]
          have hN:Lib.decodeN len x.toNat b1 b2 b3=(65533,1):=by
           unfold Lib.decodeN;rw[if_neg h8,if_neg (by omega),if_neg (by omega),if_neg (by omega)]
          rw[hN];rfl
def yGf(S:Nat×Option Nat)(P:List Int)(w:World)(e:Ending)(w':World):Prop:=(match S.2 with
 | some k=>e=.returned (.tuple #[.slice none 0 0,.int .i64 (k:Nat)])
 | none=>∃v,e=.returned (.tuple #[v,.int .i64 (-1)])/\OwnI w' w.heap.size v P)/\Below w.heap.size w w'
def RPts(l:List UInt8)(w:World)(e:Ending)(w':World):Prop:=yGf (scanL l) (pts l) w e w'
theorem y3B(s:ByteArray)(w:World)(hs:s.size<=1073741824):Calls prog 8 #[.string s] w (RPts (bl s) w):=by
 have HL:Hid ((bl s).length=s.size):=zJ s;have K1:=z7 (fun i w hi=>yEP s i w hs hi);obtain⟨S,hS⟩:∃S,S=scanL (bl s):=⟨_,rfl⟩;obtain⟨P,hP⟩:∃P,P=pts (bl s):=⟨_,rfl⟩;unfold RPts;rw[<-hS,<-hP];have HS:=z7 hS;have HP:=z7 hP;clear hS hP
 go_enter func8,ntmps8
 go_wp2
 go_loopw [4,5] (fun v iv wr=>∃(f k:Nat) (acc:List Int),iv=.int .i64 (k:Int)/\OwnI wr w.heap.size v acc/\k<=s.size/\acc.length<=k/\s.size-k<=f/\Hid (scanF f ((bl s).drop k) k acc.length=S)/\Hid (acc++pts ((bl s).drop k)=P)/\Below w.heap.size w wr) (fun _ iv _=>s.size-(intOf iv).toNat)
 case atStart=>exact⟨s.size,0,[],rfl,World.ownsRow_nil _ _ _ _,zD,zA,by omega,z7 (by have:=HS.out;unfold scanL at this;rw[HL.out]at this;rw[List.drop_zero];exact this.symm),z7 (by rw[List.drop_zero,HP.out];rfl),z8⟩
 case round=>
  obtain⟨f,k,acc,rfl,H9,hk,Hj,hf,hQ,Hd,H5⟩:=hrel;by_cases He:k<s.size
  . have H6:(bl s).drop k ≠ []:=y27 (by rw[HL.out];exact He)
    have Hc:=yEO ((bl s).drop k) H6;have k1:=fun w=>K1.out k w He
    rw[Hc]at k1;obtain⟨f,rfl⟩:∃g,f=g+1:=⟨f-1,by omega⟩;cases hb:y00 ((bl s).drop k)with
    | true=>
     rw[hb]at k1;simp only[if_true]at k1;have e1:=hQ.out;rw[y1u f _ k _ H6 hb]at e1;have K1':=z7 k1;have E1:=z7 e1;clear k1 e1;clear Hc hb H6 hQ
     go_wp2_with (go_at_call 19;refine(K1'.out _).mono ?_;rintro e w1 ⟨rfl,Ha⟩)
     refine bodyPost_ret (v:=.tuple #[.slice none 0 0,.int .i64 k]) (by simp[results,results8,go_sem]) rfl ?_;refine(show yGf _ _ _ _ _ from⟨?_,bt H5 Ha⟩);rw[<-E1.out]
    | false=>
     rw[hb]at k1;simp only[Bool.false_eq_true,if_false]at k1;have e1:=hQ.out;rw[y2J f _ k _ H6 hb,List.drop_drop]at e1;have e2:=Hd.out;rw[y7L _ H6,List.drop_drop]at e2;have Hg:=y0A ((bl s).drop k);have Hb:=y3N _ H6;rw[List.length_drop,HL.out]at Hb;have Hf:=y3M ((bl s).drop k);rcases hd:dec ((bl s).drop k)with⟨p,j⟩
     rw[hd]at k1 e1 e2 Hg Hb Hf;simp only at k1 e1 e2 Hg Hb Hf;have e3:(acc ++ [(p:Int)])++pts ((bl s).drop (k+j))=P:=by rw[List.append_assoc];exact e2
     have e4:scanF f ((bl s).drop (k+j)) (k+j) (acc ++ [(p:Int)]).length=S:=by rw[zH];exact e1
     have hj:((j:Int)==0)=false:=by simp;omega
     have K1':=z7 k1;have E3:=z7 e3;have E4:=z7 e4;clear k1 e3 e4;clear Hc hb H6 hQ hd e1 e2
     go_wp2_with (first
      | (go_at_call 19;refine(K1'.out _).mono ?_;rintro e w1 ⟨rfl,Ha⟩)
      | (at_builtin;(refine zR rfl _ _ 32 21 rfl underlying32 (.int .i32 0) 1 4 y7f rfl (by decide) w1 w.heap.size u4 acc.length (icells acc) rfl (OwnI.bel H9 Ha) #[.int .i32 (p:Int)] rfl (by simp[Value.oneCell']) rfl (by omega) (by omega) (bt H5 Ha).size ?_;intro v' w4 H8 Hi Hk)))
     have H7:OwnI w4 w.heap.size v' (acc ++ [(p:Int)]):=by
      unfold OwnI;rw[y3G,zH];exact H8
     go_roundw
     case rel=>exact⟨f,k+j,acc ++ [(p:Int)],by go_num,H7,by omega,by rw[zH];simp;omega,by omega,E4,E3,(bt H5 Ha).trans Hi⟩
     case measure=>simp[intOf];omega
  . have Hh:k=s.size:=by omega
    subst Hh;have e1:=hQ.out;have e2:=Hd.out;rw[List.drop_of_length_le (by rw[HL.out];exact zA),y8H]at e1;rw[List.drop_of_length_le (by rw[HL.out];exact zA),y9t,List.append_nil]at e2;have E1:=z7 e1;have E2:=z7 e2;clear e1 e2;clear hQ Hd;go_wp2
    refine bodyPost_ret (v:=.tuple #[u4,.int .i64 (-1)]) (by simp[results,results8,go_sem]) rfl ?_;refine(show yGf _ _ _ _ _ from⟨?_,H5⟩);rw[<-E1.out];exact⟨_,rfl,by rw[<-E2.out];exact H9⟩
end Go.Proofs.YtndlekaahjccdaaGreatDoor
namespace Go.Proofs
open Tryz
open Go.Shelf
def Tryz.sortRow_ren:Go.Shelf.Ren:=⟨fun|6=>401|15=>411|14=>410|28=>424|29=>425|20=>416|21=>417|22=>418|23=>419|24=>420|25=>421|26=>422|27=>423|46=>426|47=>427|48=>428|49=>429|50=>430|57=>431|n=>n,fun|22=>226|24=>350|25=>404|3=>3|39=>224|0=>0|53=>72|55=>71|4=>4|46=>411|45=>410|50=>183|5=>5|9=>9|66=>417|70=>421|76=>423|77=>271|n=>n,fun|n=>n⟩
theorem Tryz.sortRow:Go.Proofs.SlLaysF0.n6 prog Tryz.sortRow_ren:={
 mixed:=by kernel_rfl
 f6:=⟨Tryz.f401.name,by decide,Tryz.func401.trans (congrArg some (by kernel_rfl))⟩
 f14:=⟨Tryz.f410.name,by decide,Tryz.func410.trans (congrArg some (by kernel_rfl))⟩
 f15:=Tryz.func411.trans (congrArg some (by kernel_rfl))
 f20:=⟨Tryz.f416.name,by decide,Tryz.func416.trans (congrArg some (by kernel_rfl))⟩
 f21:=⟨Tryz.f417.name,by decide,Tryz.func417.trans (congrArg some (by kernel_rfl))⟩
 f22:=⟨Tryz.f418.name,by decide,Tryz.func418.trans (congrArg some (by kernel_rfl))⟩
 f23:=⟨Tryz.f419.name,by decide,Tryz.func419.trans (congrArg some (by kernel_rfl))⟩
 f24:=⟨Tryz.f420.name,by decide,Tryz.func420.trans (congrArg some (by kernel_rfl))⟩
 f25:=⟨Tryz.f421.name,by decide,Tryz.func421.trans (congrArg some (by kernel_rfl))⟩
 f26:=⟨Tryz.f422.name,by decide,Tryz.func422.trans (congrArg some (by kernel_rfl))⟩
 f27:=⟨Tryz.f423.name,by decide,Tryz.func423.trans (congrArg some (by kernel_rfl))⟩
 f28:=Tryz.func424.trans (congrArg some (by kernel_rfl))
 f29:=Tryz.func425.trans (congrArg some (by kernel_rfl))
 f46:=⟨Tryz.f426.name,by decide,Tryz.func426.trans (congrArg some (by kernel_rfl))⟩
 f47:=Tryz.func427.trans (congrArg some (by kernel_rfl))
 f48:=Tryz.func428.trans (congrArg some (by kernel_rfl))
 f49:=⟨Tryz.f429.name,by decide,Tryz.func429.trans (congrArg some (by kernel_rfl))⟩
 f50:=⟨Tryz.f430.name,by decide,Tryz.func430.trans (congrArg some (by kernel_rfl))⟩
 f57:=⟨Tryz.f431.name,by decide,Tryz.func431.trans (congrArg some (by kernel_rfl))⟩
 t0:=underlying0
 a0:=isAgg0
 z0:=sizeOf0
 v0:=zeroValue0
 t3:=underlying3
 a3:=isAgg3
 z3:=sizeOf3
 v3:=zeroValue3
 t4:=underlying4
 a4:=isAgg4
 z4:=sizeOf4
 v4:=zeroValue4
 t5:=underlying5
 a5:=isAgg5
 z5:=sizeOf5
 v5:=zeroValue5
 t9:=underlying9
 a9:=isAgg9
 z9:=sizeOf9
 v9:=zeroValue9
 t22:=underlying226
 a22:=isAgg226
 z22:=sizeOf226
 v22:=zeroValue226
 t25:=underlying404
 a25:=isAgg404
 z25:=sizeOf404
 v25:=zeroValue404
 t39:=underlying224
 a39:=isAgg224
 z39:=sizeOf224
 v39:=zeroValue224
 t45:=underlying410
 a45:=isAgg410
 z45:=sizeOf410
 v45:=zeroValue410
 t46:=underlying411
 a46:=isAgg411
 z46:=sizeOf411
 v46:=zeroValue411
 t50:=underlying183
 a50:=isAgg183
 z50:=sizeOf183
 v50:=zeroValue183
 t53:=underlying72
 a53:=isAgg72
 z53:=sizeOf72
 v53:=zeroValue72
 t55:=underlying71
 a55:=isAgg71
 z55:=sizeOf71
 v55:=zeroValue71
 t66:=underlying417
 a66:=isAgg417
 z66:=sizeOf417
 v66:=zeroValue417
 t70:=underlying421
 a70:=isAgg421
 z70:=sizeOf421
 v70:=zeroValue421
 t76:=underlying423
 a76:=isAgg423
 z76:=sizeOf423
 v76:=zeroValue423
 t77:=underlying271
 a77:=isAgg271
 z77:=sizeOf271
 v77:=zeroValue271 }
