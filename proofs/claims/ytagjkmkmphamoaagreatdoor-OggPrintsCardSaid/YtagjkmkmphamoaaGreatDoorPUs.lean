/- Us -/
import Derived.Test.YtagjkmkmphamoaaGreatDoorPA2
set_option linter.all false
set_option maxHeartbeats 4000000
namespace Go.Proofs.YtagjkmkmphamoaaGreatDoor
open Go.RowKit
theorem qg6(p:Int)(hp:Scal p)(w:World):Calls Tryz.prog 115 #[.int .i32 p] w fun e w'=>e=.returned (.string ⟨(encR p).toArray⟩)∧Below w.heap.size w w':=by
 obtain⟨p0,p1,p2⟩:=hp;by_cases c1:p<128
 · skip
   obtain⟨b0,h0⟩:∃b:UInt8,p=(b.toNat:Int):=⟨UInt8.ofNat (p).toNat,by rw[UInt8.toNat_ofNat'];omega⟩;have he:encR p = [b0]:=by
    unfold encR Lib.encodeRune;rw[Lib.encodeRuneZ_one p0 (by omega)];simp only[List.map_cons,List.map_nil];rw[Lib.toByte _ b0 h0]
   have hcv:∀W:World,(convert 140 9 (.slice (some ⟨W.heap.size,0,none⟩) 1 1)).run Tryz.prog (W.alloc (.cells #[.int .u8 (b0.toNat:Int)] 5))=.ok (.string ⟨#[b0]⟩) (W.alloc (.cells #[.int .u8 (b0.toNat:Int)] 5)):=by
    intro W;exact jf7 (l:=[b0]) 140 9 Tryz.underlying140 Tryz.underlying5 Tryz.underlying9 (World.ownsRow_lit (size:=1) (base:=W.heap.size) W #[.int .u8 (b0.toNat:Int)] 1 (Nat.le_refl _) (by unfold maxLen;omega) rfl)
   have k0:=b0.toNat_lt;subst h0;rw[he];have HE:=Lib.hid he;clear he
   go_enter Tryz.func115,Tryz.ntmps115
   go_wp2
   go_ret
   exact⟨rfl,bal (Below.refl _ _) _⟩
 by_cases c2:p<2048
 · skip
   obtain⟨b0,h0⟩:∃b:UInt8,192+p/64=(b.toNat:Int):=⟨UInt8.ofNat (192+p/64).toNat,by rw[UInt8.toNat_ofNat'];omega⟩;obtain⟨b1,h1⟩:∃b:UInt8,128+p%64=(b.toNat:Int):=⟨UInt8.ofNat (128+p%64).toNat,by rw[UInt8.toNat_ofNat'];omega⟩;have he:encR p = [b0,b1]:=by
    unfold encR Lib.encodeRune;rw[Lib.encodeRuneZ_two (by omega) (by omega)];simp only[List.map_cons,List.map_nil];rw[Lib.toByte _ b0 h0,Lib.toByte _ b1 h1]
   have hcv:∀W:World,(convert 140 9 (.slice (some ⟨W.heap.size,0,none⟩) 2 2)).run Tryz.prog (W.alloc (.cells #[.int .u8 (b0.toNat:Int),.int .u8 (b1.toNat:Int)] 5))=.ok (.string ⟨#[b0,b1]⟩) (W.alloc (.cells #[.int .u8 (b0.toNat:Int),.int .u8 (b1.toNat:Int)] 5)):=by
    intro W;exact jf7 (l:=[b0,b1]) 140 9 Tryz.underlying140 Tryz.underlying5 Tryz.underlying9 (World.ownsRow_lit (size:=1) (base:=W.heap.size) W #[.int .u8 (b0.toNat:Int),.int .u8 (b1.toNat:Int)] 2 (Nat.le_refl _) (by unfold maxLen;omega) rfl)
   have k0:=b0.toNat_lt;have k1:=b1.toNat_lt;rw[he];have HE:=Lib.hid he;clear he
   go_enter Tryz.func115,Tryz.ntmps115
   go_wp2
   go_ret
   exact⟨rfl,bal (Below.refl _ _) _⟩
 by_cases c3:p<65536
 · skip
   obtain⟨b0,h0⟩:∃b:UInt8,224+p/4096=(b.toNat:Int):=⟨UInt8.ofNat (224+p/4096).toNat,by rw[UInt8.toNat_ofNat'];omega⟩;obtain⟨b1,h1⟩:∃b:UInt8,128+p/64%64=(b.toNat:Int):=⟨UInt8.ofNat (128+p/64%64).toNat,by rw[UInt8.toNat_ofNat'];omega⟩;obtain⟨b2,h2⟩:∃b:UInt8,128+p%64=(b.toNat:Int):=⟨UInt8.ofNat (128+p%64).toNat,by rw[UInt8.toNat_ofNat'];omega⟩;have he:encR p = [b0,b1,b2]:=by
    unfold encR Lib.encodeRune;rw[Lib.encodeRuneZ_three (by omega)];simp only[List.map_cons,List.map_nil];rw[Lib.toByte _ b0 h0,Lib.toByte _ b1 h1,Lib.toByte _ b2 h2]
   have hcv:∀W:World,(convert 140 9 (.slice (some ⟨W.heap.size,0,none⟩) 3 3)).run Tryz.prog (W.alloc (.cells #[.int .u8 (b0.toNat:Int),.int .u8 (b1.toNat:Int),.int .u8 (b2.toNat:Int)] 5))=.ok (.string ⟨#[b0,b1,b2]⟩) (W.alloc (.cells #[.int .u8 (b0.toNat:Int),.int .u8 (b1.toNat:Int),.int .u8 (b2.toNat:Int)] 5)):=by
    intro W;exact jf7 (l:=[b0,b1,b2]) 140 9 Tryz.underlying140 Tryz.underlying5 Tryz.underlying9 (World.ownsRow_lit (size:=1) (base:=W.heap.size) W #[.int .u8 (b0.toNat:Int),.int .u8 (b1.toNat:Int),.int .u8 (b2.toNat:Int)] 3 (Nat.le_refl _) (by unfold maxLen;omega) rfl)
   have k0:=b0.toNat_lt;have k1:=b1.toNat_lt;have k2:=b2.toNat_lt;rw[he];have HE:=Lib.hid he;clear he
   go_enter Tryz.func115,Tryz.ntmps115
   go_wp2
   go_ret
   exact⟨rfl,bal (Below.refl _ _) _⟩
 · skip
   obtain⟨b0,h0⟩:∃b:UInt8,240+p/262144=(b.toNat:Int):=⟨UInt8.ofNat (240+p/262144).toNat,by rw[UInt8.toNat_ofNat'];omega⟩;obtain⟨b1,h1⟩:∃b:UInt8,128+p/4096%64=(b.toNat:Int):=⟨UInt8.ofNat (128+p/4096%64).toNat,by rw[UInt8.toNat_ofNat'];omega⟩;obtain⟨b2,h2⟩:∃b:UInt8,128+p/64%64=(b.toNat:Int):=⟨UInt8.ofNat (128+p/64%64).toNat,by rw[UInt8.toNat_ofNat'];omega⟩;obtain⟨b3,h3⟩:∃b:UInt8,128+p%64=(b.toNat:Int):=⟨UInt8.ofNat (128+p%64).toNat,by rw[UInt8.toNat_ofNat'];omega⟩;have he:encR p = [b0,b1,b2,b3]:=by
    unfold encR Lib.encodeRune;rw[Lib.encodeRuneZ_four (by omega) p1];simp only[List.map_cons,List.map_nil];rw[Lib.toByte _ b0 h0,Lib.toByte _ b1 h1,Lib.toByte _ b2 h2,Lib.toByte _ b3 h3]
   have hcv:∀W:World,(convert 140 9 (.slice (some ⟨W.heap.size,0,none⟩) 4 4)).run Tryz.prog (W.alloc (.cells #[.int .u8 (b0.toNat:Int),.int .u8 (b1.toNat:Int),.int .u8 (b2.toNat:Int),.int .u8 (b3.toNat:Int)] 5))=.ok (.string ⟨#[b0,b1,b2,b3]⟩) (W.alloc (.cells #[.int .u8 (b0.toNat:Int),.int .u8 (b1.toNat:Int),.int .u8 (b2.toNat:Int),.int .u8 (b3.toNat:Int)] 5)):=by
    intro W;exact jf7 (l:=[b0,b1,b2,b3]) 140 9 Tryz.underlying140 Tryz.underlying5 Tryz.underlying9 (World.ownsRow_lit (size:=1) (base:=W.heap.size) W #[.int .u8 (b0.toNat:Int),.int .u8 (b1.toNat:Int),.int .u8 (b2.toNat:Int),.int .u8 (b3.toNat:Int)] 4 (Nat.le_refl _) (by unfold maxLen;omega) rfl)
   have k0:=b0.toNat_lt;have k1:=b1.toNat_lt;have k2:=b2.toNat_lt;have k3:=b3.toNat_lt;rw[he];have HE:=Lib.hid he;clear he
   go_enter Tryz.func115,Tryz.ntmps115
   go_wp2
   go_ret
   exact⟨rfl,bal (Below.refl _ _) _⟩
def moreM(l:List UInt8)(i:Nat):Int:=match l[i]? with
 | none=>-1
 | some x=>if x.toNat<128∨191<x.toNat then -1 else(x.toNat:Int)-128
theorem kg7(l:List UInt8)(i:Nat):moreM l i = -1∨(0≤moreM l i∧moreM l i<64):=by
 unfold moreM;cases h:l[i]? with
 | none=>exact .inl rfl
 | some x=>
  simp only;split
  · exact .inl rfl
  · right;omega
theorem more_any(s:ByteArray)(i:Nat)(w:World)(hi:i≤1152921504606846976):Calls Tryz.prog 113 #[.string s,.int .i64 i] w fun e w'=>e=.returned (.int .i32 (moreM (bl s) i))∧w=w':=by
 have hL:=jb1 s;by_cases hlt:i<s.size
 · obtain⟨x,hx⟩:=jb6 (bl s) i (by omega)
   have X:∀h,s[i]'h=x:=jc7 s i x hx;have hm:moreM (bl s) i=if x.toNat<128∨191<x.toNat then -1 else(x.toNat:Int)-128:=by unfold moreM;rw[hx]
   have hxl:=x.toNat_lt;have hw:IntKind.u8.wrap ((x.toNat:Int)-128)=if x.toNat<128∨191<x.toNat then IntKind.u8.wrap ((x.toNat:Int)-128)else(x.toNat:Int)-128:=by
    split
    · rfl
    · exact wraps_u8 _ (by omega) (by omega)
   rw[hm];by_cases h1:x.toNat<128
   · rw[if_pos (.inl h1)]
     clear hx hm hL hw
     go_enter Tryz.func113,Tryz.ntmps113
     go_wp2
     go_ret
     exact⟨rfl,rfl⟩
   · by_cases h2:191<x.toNat
     · rw[if_pos (.inr h2)]
       clear hx hm hL hw
       go_enter Tryz.func113,Tryz.ntmps113
       go_wp2
       go_ret
       exact⟨rfl,rfl⟩
     · rw[if_neg (by omega)]
       rw[if_neg (by omega)]at hw;clear hx hm hL
       go_enter Tryz.func113,Tryz.ntmps113
       go_wp2
       go_ret
       exact⟨rfl,rfl⟩
 · have hm:moreM (bl s) i = -1:=by unfold moreM;rw[List.getElem?_eq_none (by omega)]
   rw[hm];clear hm hL
   go_enter Tryz.func113,Tryz.ntmps113
   go_wp2
   go_ret
   exact⟨rfl,rfl⟩
def atF(l:List UInt8):Nat→Nat→Int→Option Int
 | 0,_,p=>some p
 | f+1,k,p=>if moreM l k<0 then none else atF l f (k+1) (p*64+moreM l k)
def headM(c:Nat):Option (Nat×Int):=if 192≤c∧c<224 then some (2,(c:Int)-192)else if 224≤c∧c<240 then some (3,(c:Int)-224)else if 240≤c∧c<248 then some (4,(c:Int)-240)else none
def atEnd(n:Nat):Option Int→Int×Nat
 | none=>(0,0)
 | some q=>if scalar q=true∧(encR q).length=n then(q,n)else(0,0)
def refAtM:List UInt8→Int×Nat
 | []=>(0,0)
 | x::r=>if x.toNat<128 then(x.toNat,1)else match headM x.toNat with
  | none=>(0,0)
  | some (n,p)=>atEnd n (atF (x::r) (n-1) 1 p)
theorem xb1(l:List UInt8)(i k:Nat):moreM (l.drop i) k=moreM l (i+k):=by unfold moreM;rw[List.getElem?_drop]
theorem qq4{q:Int}(h:scalar q=true):Scal q:=by unfold scalar at h;unfold Scal;simpa using h
theorem kz5(p:Int)(w:World):Calls Tryz.prog 114 #[.int .i32 p] w fun e w'=>e=.returned (.bool (scalar p))∧w=w':=by
 go_enter Tryz.func114,Tryz.ntmps114
 go_wp2
 all_goals go_ret
 all_goals (refine⟨jg0 ?_,rfl⟩;unfold scalar;rw[Bool.eq_iff_iff];simp;omega)
set_option maxRecDepth 100000 in
theorem at_multi(s:ByteArray)(i:Nat)(x:UInt8)(n:Nat)(p0:Int)(w:World)(hs:s.size≤1073741824)(hx:(bl s)[i]?=some x)(h8:¬x.toNat<128)(hh:headM x.toNat=some (n,p0)):
 Calls Tryz.prog 89 #[.string s,.int .i64 i] w fun e w'=>e=.returned (.tuple #[.int .i32 (refAtM ((bl s).drop i)).1,.int .i64 (refAtM ((bl s).drop i)).2])∧Below w.heap.size w w':=by
 have hi:=(List.getElem?_eq_some_iff.1 hx).1;have hL:=jb1 s;have X:∀h,s[i]'h=x:=jc7 s i x hx;have hd:=jd1 (bl s) i hi;rw[(List.getElem?_eq_some_iff.1 hx).2]at hd;obtain⟨R,hR⟩:∃R,R=atF ((bl s).drop i) (n-1) 1 p0:=⟨_,rfl⟩;have hm:refAtM ((bl s).drop i)=atEnd n R:=by
  rw[hR,hd,refAtM,if_neg h8,hh]
 rw[hm];have hxl:=x.toNat_lt;have hlt:i<s.size:=by omega
 have K1:Hid (∀(k:Nat) w,k≤4→Calls Tryz.prog 113 #[.string s,.int .i64 ((i:Int)+k)] w fun e w'=>e=.returned (.int .i32 (moreM ((bl s).drop i) k))∧w=w'):=by
  intro k w hk;have:=more_any s (i+k) w (by omega);rw[Int.natCast_add,←xb1]at this;exact this
 have K2:=Lib.hid (fun p w=>kz5 p w);have K3:=Lib.hid (fun p hp w=>qg6 p hp w);have hn:2≤n∧n≤4∧0≤p0∧p0<32:=by
  unfold headM at hh;split at hh
  · simp only[Option.some.injEq,Prod.mk.injEq]at hh;omega
  · split at hh
    · simp only[Option.some.injEq,Prod.mk.injEq]at hh;omega
    · split at hh
      · simp only[Option.some.injEq,Prod.mk.injEq]at hh;omega
      · cases hh
 obtain⟨n2,n4,p00,p01⟩:=hn;have hcut:∀(q:Int) (k:Nat),1≤k→k≤n→Hid (atF ((bl s).drop i) (n-k) k q=R)→k<n→Hid (atF ((bl s).drop i) (n-k) k q=if moreM ((bl s).drop i) k<0 then none else atF ((bl s).drop i) (n-(k+1)) (k+1) (q*64+moreM ((bl s).drop i) k)):=by
  intro q k h1 h2 h3 h4;obtain⟨f,hf⟩:∃f,n-k=f+1:=⟨n-k-1,by omega⟩;have hf2:n-(k+1)=f:=by omega
  rw[hf,hf2]
  rfl
 have hbd:=kg7 ((bl s).drop i);obtain⟨l,hl⟩:∃l,l=(bl s).drop i:=⟨_,rfl⟩;rw[←hl]at hR K1 hcut hbd;have HR:=Lib.hid hR;have HL:=Lib.hid hL;have HCUT:=Lib.hid hcut;have HBD:=Lib.hid hbd;clear hR hL hcut hbd;clear hm hd hx hl;unfold headM at hh;have main:∀(c0 c1:Nat),192≤c0→c0≤x.toNat→x.toNat<c1→((c0=192∧c1=224∧n=2)∨(c0=224∧c1=240∧n=3)∨(c0=240∧c1=248∧n=4))→p0=(x.toNat:Int)-c0 →
  Calls Tryz.prog 89 #[.string s,.int .i64 i] w fun e w'=>e=.returned (.tuple #[.int .i32 (atEnd n R).1,.int .i64 (atEnd n R).2])∧Below w.heap.size w w':=by
  clear hh;rintro c0 c1 a0 a1 a2 a3 rfl;rcases a3 with⟨rfl,rfl,rfl⟩|⟨rfl,rfl,rfl⟩|⟨rfl,rfl,rfl⟩
  · skip
    clear n2 n4;have hdx:decide ((x.toNat:Int)<128)=false:=by simp;omega
    have hg192:decide ((x.toNat:Int) ≥ 192)=true:=by simp;omega
    have hh192:decide (192≤(x.toNat:Int))=true:=by simp;omega
    have hg224:decide ((x.toNat:Int) ≥ 224)=false:=by simp;omega
    have hh224:decide (224≤(x.toNat:Int))=false:=by simp;omega
    have hg240:decide ((x.toNat:Int) ≥ 240)=false:=by simp;omega
    have hh240:decide (240≤(x.toNat:Int))=false:=by simp;omega
    have hl224:decide ((x.toNat:Int)<224)=true:=by simp;omega
    have hl240:decide ((x.toNat:Int)<240)=true:=by simp;omega
    have hl248:decide ((x.toNat:Int)<248)=true:=by simp;omega
    go_enter Tryz.func89,Tryz.ntmps89
    go_wp2
    go_loop [8,9] (fun pv kv=>∃(k:Nat) (q:Int),kv=.int .i64 (k:Int)∧pv=.int .i32 q∧1≤k∧k≤2∧Hid (atF l (2-k) k q=R)∧0≤q∧((k=1∧q<32)∨(k=2∧q<2048)∨(k=3∧q<131072)∨(k=4∧q<8388608))) (fun _ kv=>2-(intOf kv).toNat)
    case atStart=>exact⟨1,_,rfl,rfl,by omega,by omega,Lib.hid HR.out.symm,by omega,.inl ⟨rfl,by omega⟩⟩
    case round=>
     obtain⟨k,q,rfl,rfl,hk1,hkn,hQ,hq0,hqb⟩:=hrel;by_cases hlk:k<2
     · have hc:=(HCUT.out q k hk1 hkn hQ hlk).out
       have hb:=HBD.out k;have k1:=fun w=>K1.out k w (by omega)
       generalize moreM l k=m at *;by_cases hm:m<0
       · rw[if_pos hm]at hc
         have hRn:R=none:=by rw[←hQ.out,hc]
         have HRN:=Lib.hid hRn;have K1':=Lib.hid k1;have HC:=Lib.hid hc;clear hRn k1 hc;clear hb hQ
         go_wp2_with (go_at_call 113;refine(K1'.out _).mono ?_;rintro e w1 ⟨rfl,rfl⟩)
         go_ret2
         exact⟨by rw[HRN.out];rfl,Below.refl _ _⟩
       · rw[if_neg hm]at hc
         have hQ2:atF l (2-(k+1)) (k+1) (q*64+m)=R:=by rw[←hc];exact hQ.out
         obtain⟨m0,m1⟩:0≤m∧m<64:=by omega
         have hqs:q<131072:=by omega
         have hw1:IntKind.i32.wrap (q*64)=q*64:=wraps_i32 _ (by omega) (by omega);have hw2:IntKind.i32.wrap (q*64+m)=q*64+m:=wraps_i32 _ (by omega) (by omega);have hqb2:((k+1=1∧q*64+m<32)∨(k+1=2∧q*64+m<2048)∨(k+1=3∧q*64+m<131072)∨(k+1=4∧q*64+m<8388608)):=by omega
         have HQ2:=Lib.hid hQ2;have K1':=Lib.hid k1;have HC:=Lib.hid hc;have HQB:=Lib.hid hqb2;clear hQ2 k1 hc hqb2;clear hb hQ hqb
         go_wp2_with (go_at_call 113;refine(K1'.out _).mono ?_;rintro e w1 ⟨rfl,rfl⟩)
         go_round
         case rel=>exact⟨k+1,q*64+m,by go_num,rfl,by omega,by omega,HQ2,by omega,HQB.out⟩
         case measure=>simp[intOf];omega
     · have hkk:k=2:=by omega
       subst hkk;have hRq:R=some q:=by rw[←hQ.out];rfl
       have k2:=fun w=>K2.out q w
       cases hsc:scalar q with
       | false=>
        have he:atEnd 2 (some q)=(0,0):=by unfold atEnd;simp[hsc]
        rw[hsc]at k2;have HE:=Lib.hid he;have HRQ:=Lib.hid hRq;have K2':=Lib.hid k2;have HSC:=Lib.hid hsc;clear he hRq k2 hsc;clear hQ hqb
        go_wp2_with (go_at_call 114;refine(K2'.out _).mono ?_;rintro e w1 ⟨rfl,rfl⟩)
        go_ret2
        exact⟨by rw[HRQ.out,HE.out];rfl,Below.refl _ _⟩
       | true=>
        rw[hsc]at k2;have hS:Scal q:=qq4 hsc;have k3:=fun w=>K3.out q hS w
        obtain⟨tb,htb⟩:∃tb:ByteArray,tb=⟨(encR q).toArray⟩:=⟨_,rfl⟩;have htl:tb.size=(encR q).length:=by rw[htb];rfl
        rw[←htb]at k3;by_cases hln:tb.size=2
        · have he:atEnd 2 (some q)=(q,2):=by unfold atEnd;simp[hsc,←htl,hln]
          have HE:=Lib.hid he;have HRQ:=Lib.hid hRq;have K2':=Lib.hid k2;have K3':=Lib.hid k3;have HSC:=Lib.hid hsc;have HTL:=Lib.hid htl;clear he hRq k2 k3 hsc htl;clear hQ hqb hS htb
          go_wp2_with (first
           | (go_at_call 114;refine(K2'.out _).mono ?_;rintro e w1 ⟨rfl,rfl⟩)
           | (go_at_call 115;refine(K3'.out _).mono ?_;rintro e w2 ⟨rfl,hb2⟩))
          go_ret2
          exact⟨by rw[HRQ.out,HE.out];rfl,hb2⟩
        · have he:atEnd 2 (some q)=(0,0):=by unfold atEnd;simp[hsc,←htl,hln]
          have hln2:¬(tb.size:Int)=2:=by omega
          have HE:=Lib.hid he;have HRQ:=Lib.hid hRq;have K2':=Lib.hid k2;have K3':=Lib.hid k3;have HSC:=Lib.hid hsc;have HTL:=Lib.hid htl;clear he hRq k2 k3 hsc htl;clear hQ hqb hS htb
          go_wp2_with (first
           | (go_at_call 114;refine(K2'.out _).mono ?_;rintro e w1 ⟨rfl,rfl⟩)
           | (go_at_call 115;refine(K3'.out _).mono ?_;rintro e w2 ⟨rfl,hb2⟩))
          go_ret2
          exact⟨by rw[HRQ.out,HE.out];rfl,hb2⟩
  · skip
    clear n2 n4;have hdx:decide ((x.toNat:Int)<128)=false:=by simp;omega
    have hg192:decide ((x.toNat:Int) ≥ 192)=true:=by simp;omega
    have hh192:decide (192≤(x.toNat:Int))=true:=by simp;omega
    have hg224:decide ((x.toNat:Int) ≥ 224)=true:=by simp;omega
    have hh224:decide (224≤(x.toNat:Int))=true:=by simp;omega
    have hg240:decide ((x.toNat:Int) ≥ 240)=false:=by simp;omega
    have hh240:decide (240≤(x.toNat:Int))=false:=by simp;omega
    have hl224:decide ((x.toNat:Int)<224)=false:=by simp;omega
    have hl240:decide ((x.toNat:Int)<240)=true:=by simp;omega
    have hl248:decide ((x.toNat:Int)<248)=true:=by simp;omega
    go_enter Tryz.func89,Tryz.ntmps89
    go_wp2
    go_loop [8,9] (fun pv kv=>∃(k:Nat) (q:Int),kv=.int .i64 (k:Int)∧pv=.int .i32 q∧1≤k∧k≤3∧Hid (atF l (3-k) k q=R)∧0≤q∧((k=1∧q<32)∨(k=2∧q<2048)∨(k=3∧q<131072)∨(k=4∧q<8388608))) (fun _ kv=>3-(intOf kv).toNat)
    case atStart=>exact⟨1,_,rfl,rfl,by omega,by omega,Lib.hid HR.out.symm,by omega,.inl ⟨rfl,by omega⟩⟩
    case round=>
     obtain⟨k,q,rfl,rfl,hk1,hkn,hQ,hq0,hqb⟩:=hrel;by_cases hlk:k<3
     · have hc:=(HCUT.out q k hk1 hkn hQ hlk).out
       have hb:=HBD.out k;have k1:=fun w=>K1.out k w (by omega)
       generalize moreM l k=m at *;by_cases hm:m<0
       · rw[if_pos hm]at hc
         have hRn:R=none:=by rw[←hQ.out,hc]
         have HRN:=Lib.hid hRn;have K1':=Lib.hid k1;have HC:=Lib.hid hc;clear hRn k1 hc;clear hb hQ
         go_wp2_with (go_at_call 113;refine(K1'.out _).mono ?_;rintro e w1 ⟨rfl,rfl⟩)
         go_ret2
         exact⟨by rw[HRN.out];rfl,Below.refl _ _⟩
       · rw[if_neg hm]at hc
         have hQ2:atF l (3-(k+1)) (k+1) (q*64+m)=R:=by rw[←hc];exact hQ.out
         obtain⟨m0,m1⟩:0≤m∧m<64:=by omega
         have hqs:q<131072:=by omega
         have hw1:IntKind.i32.wrap (q*64)=q*64:=wraps_i32 _ (by omega) (by omega);have hw2:IntKind.i32.wrap (q*64+m)=q*64+m:=wraps_i32 _ (by omega) (by omega);have hqb2:((k+1=1∧q*64+m<32)∨(k+1=2∧q*64+m<2048)∨(k+1=3∧q*64+m<131072)∨(k+1=4∧q*64+m<8388608)):=by omega
         have HQ2:=Lib.hid hQ2;have K1':=Lib.hid k1;have HC:=Lib.hid hc;have HQB:=Lib.hid hqb2;clear hQ2 k1 hc hqb2;clear hb hQ hqb
         go_wp2_with (go_at_call 113;refine(K1'.out _).mono ?_;rintro e w1 ⟨rfl,rfl⟩)
         go_round
         case rel=>exact⟨k+1,q*64+m,by go_num,rfl,by omega,by omega,HQ2,by omega,HQB.out⟩
         case measure=>simp[intOf];omega
     · have hkk:k=3:=by omega
       subst hkk;have hRq:R=some q:=by rw[←hQ.out];rfl
       have k2:=fun w=>K2.out q w
       cases hsc:scalar q with
       | false=>
        have he:atEnd 3 (some q)=(0,0):=by unfold atEnd;simp[hsc]
        rw[hsc]at k2;have HE:=Lib.hid he;have HRQ:=Lib.hid hRq;have K2':=Lib.hid k2;have HSC:=Lib.hid hsc;clear he hRq k2 hsc;clear hQ hqb
        go_wp2_with (go_at_call 114;refine(K2'.out _).mono ?_;rintro e w1 ⟨rfl,rfl⟩)
        go_ret2
        exact⟨by rw[HRQ.out,HE.out];rfl,Below.refl _ _⟩
       | true=>
        rw[hsc]at k2;have hS:Scal q:=qq4 hsc;have k3:=fun w=>K3.out q hS w
        obtain⟨tb,htb⟩:∃tb:ByteArray,tb=⟨(encR q).toArray⟩:=⟨_,rfl⟩;have htl:tb.size=(encR q).length:=by rw[htb];rfl
        rw[←htb]at k3;by_cases hln:tb.size=3
        · have he:atEnd 3 (some q)=(q,3):=by unfold atEnd;simp[hsc,←htl,hln]
          have HE:=Lib.hid he;have HRQ:=Lib.hid hRq;have K2':=Lib.hid k2;have K3':=Lib.hid k3;have HSC:=Lib.hid hsc;have HTL:=Lib.hid htl;clear he hRq k2 k3 hsc htl;clear hQ hqb hS htb
          go_wp2_with (first
           | (go_at_call 114;refine(K2'.out _).mono ?_;rintro e w1 ⟨rfl,rfl⟩)
           | (go_at_call 115;refine(K3'.out _).mono ?_;rintro e w2 ⟨rfl,hb2⟩))
          go_ret2
          exact⟨by rw[HRQ.out,HE.out];rfl,hb2⟩
        · have he:atEnd 3 (some q)=(0,0):=by unfold atEnd;simp[hsc,←htl,hln]
          have hln2:¬(tb.size:Int)=3:=by omega
          have HE:=Lib.hid he;have HRQ:=Lib.hid hRq;have K2':=Lib.hid k2;have K3':=Lib.hid k3;have HSC:=Lib.hid hsc;have HTL:=Lib.hid htl;clear he hRq k2 k3 hsc htl;clear hQ hqb hS htb
          go_wp2_with (first
           | (go_at_call 114;refine(K2'.out _).mono ?_;rintro e w1 ⟨rfl,rfl⟩)
           | (go_at_call 115;refine(K3'.out _).mono ?_;rintro e w2 ⟨rfl,hb2⟩))
          go_ret2
          exact⟨by rw[HRQ.out,HE.out];rfl,hb2⟩
  · skip
    clear n2 n4;have hdx:decide ((x.toNat:Int)<128)=false:=by simp;omega
    have hg192:decide ((x.toNat:Int) ≥ 192)=true:=by simp;omega
    have hh192:decide (192≤(x.toNat:Int))=true:=by simp;omega
    have hg224:decide ((x.toNat:Int) ≥ 224)=true:=by simp;omega
    have hh224:decide (224≤(x.toNat:Int))=true:=by simp;omega
    have hg240:decide ((x.toNat:Int) ≥ 240)=true:=by simp;omega
    have hh240:decide (240≤(x.toNat:Int))=true:=by simp;omega
    have hl224:decide ((x.toNat:Int)<224)=false:=by simp;omega
    have hl240:decide ((x.toNat:Int)<240)=false:=by simp;omega
    have hl248:decide ((x.toNat:Int)<248)=true:=by simp;omega
    go_enter Tryz.func89,Tryz.ntmps89
    go_wp2
    go_loop [8,9] (fun pv kv=>∃(k:Nat) (q:Int),kv=.int .i64 (k:Int)∧pv=.int .i32 q∧1≤k∧k≤4∧Hid (atF l (4-k) k q=R)∧0≤q∧((k=1∧q<32)∨(k=2∧q<2048)∨(k=3∧q<131072)∨(k=4∧q<8388608))) (fun _ kv=>4-(intOf kv).toNat)
    case atStart=>exact⟨1,_,rfl,rfl,by omega,by omega,Lib.hid HR.out.symm,by omega,.inl ⟨rfl,by omega⟩⟩
    case round=>
     obtain⟨k,q,rfl,rfl,hk1,hkn,hQ,hq0,hqb⟩:=hrel;by_cases hlk:k<4
     · have hc:=(HCUT.out q k hk1 hkn hQ hlk).out
       have hb:=HBD.out k;have k1:=fun w=>K1.out k w (by omega)
       generalize moreM l k=m at *;by_cases hm:m<0
       · rw[if_pos hm]at hc
         have hRn:R=none:=by rw[←hQ.out,hc]
         have HRN:=Lib.hid hRn;have K1':=Lib.hid k1;have HC:=Lib.hid hc;clear hRn k1 hc;clear hb hQ
         go_wp2_with (go_at_call 113;refine(K1'.out _).mono ?_;rintro e w1 ⟨rfl,rfl⟩)
         go_ret2
         exact⟨by rw[HRN.out];rfl,Below.refl _ _⟩
       · rw[if_neg hm]at hc
         have hQ2:atF l (4-(k+1)) (k+1) (q*64+m)=R:=by rw[←hc];exact hQ.out
         obtain⟨m0,m1⟩:0≤m∧m<64:=by omega
         have hqs:q<131072:=by omega
         have hw1:IntKind.i32.wrap (q*64)=q*64:=wraps_i32 _ (by omega) (by omega);have hw2:IntKind.i32.wrap (q*64+m)=q*64+m:=wraps_i32 _ (by omega) (by omega);have hqb2:((k+1=1∧q*64+m<32)∨(k+1=2∧q*64+m<2048)∨(k+1=3∧q*64+m<131072)∨(k+1=4∧q*64+m<8388608)):=by omega
         have HQ2:=Lib.hid hQ2;have K1':=Lib.hid k1;have HC:=Lib.hid hc;have HQB:=Lib.hid hqb2;clear hQ2 k1 hc hqb2;clear hb hQ hqb
         go_wp2_with (go_at_call 113;refine(K1'.out _).mono ?_;rintro e w1 ⟨rfl,rfl⟩)
         go_round
         case rel=>exact⟨k+1,q*64+m,by go_num,rfl,by omega,by omega,HQ2,by omega,HQB.out⟩
         case measure=>simp[intOf];omega
     · have hkk:k=4:=by omega
       subst hkk;have hRq:R=some q:=by rw[←hQ.out];rfl
       have k2:=fun w=>K2.out q w
       cases hsc:scalar q with
       | false=>
        have he:atEnd 4 (some q)=(0,0):=by unfold atEnd;simp[hsc]
        rw[hsc]at k2;have HE:=Lib.hid he;have HRQ:=Lib.hid hRq;have K2':=Lib.hid k2;have HSC:=Lib.hid hsc;clear he hRq k2 hsc;clear hQ hqb
        go_wp2_with (go_at_call 114;refine(K2'.out _).mono ?_;rintro e w1 ⟨rfl,rfl⟩)
        go_ret2
        exact⟨by rw[HRQ.out,HE.out];rfl,Below.refl _ _⟩
       | true=>
        rw[hsc]at k2;have hS:Scal q:=qq4 hsc;have k3:=fun w=>K3.out q hS w
        obtain⟨tb,htb⟩:∃tb:ByteArray,tb=⟨(encR q).toArray⟩:=⟨_,rfl⟩;have htl:tb.size=(encR q).length:=by rw[htb];rfl
        rw[←htb]at k3;by_cases hln:tb.size=4
        · have he:atEnd 4 (some q)=(q,4):=by unfold atEnd;simp[hsc,←htl,hln]
          have HE:=Lib.hid he;have HRQ:=Lib.hid hRq;have K2':=Lib.hid k2;have K3':=Lib.hid k3;have HSC:=Lib.hid hsc;have HTL:=Lib.hid htl;clear he hRq k2 k3 hsc htl;clear hQ hqb hS htb
          go_wp2_with (first
           | (go_at_call 114;refine(K2'.out _).mono ?_;rintro e w1 ⟨rfl,rfl⟩)
           | (go_at_call 115;refine(K3'.out _).mono ?_;rintro e w2 ⟨rfl,hb2⟩))
          go_ret2
          exact⟨by rw[HRQ.out,HE.out];rfl,hb2⟩
        · have he:atEnd 4 (some q)=(0,0):=by unfold atEnd;simp[hsc,←htl,hln]
          have hln2:¬(tb.size:Int)=4:=by omega
          have HE:=Lib.hid he;have HRQ:=Lib.hid hRq;have K2':=Lib.hid k2;have K3':=Lib.hid k3;have HSC:=Lib.hid hsc;have HTL:=Lib.hid htl;clear he hRq k2 k3 hsc htl;clear hQ hqb hS htb
          go_wp2_with (first
           | (go_at_call 114;refine(K2'.out _).mono ?_;rintro e w1 ⟨rfl,rfl⟩)
           | (go_at_call 115;refine(K3'.out _).mono ?_;rintro e w2 ⟨rfl,hb2⟩))
          go_ret2
          exact⟨by rw[HRQ.out,HE.out];rfl,hb2⟩
 split at hh
 · rename_i hc
   simp only[Option.some.injEq,Prod.mk.injEq]at hh;exact main 192 224 (by omega) hc.1 hc.2 (.inl ⟨rfl,rfl,hh.1.symm⟩) hh.2.symm
 · split at hh
   · rename_i hc
     simp only[Option.some.injEq,Prod.mk.injEq]at hh;exact main 224 240 (by omega) hc.1 hc.2 (.inr (.inl ⟨rfl,rfl,hh.1.symm⟩)) hh.2.symm
   · split at hh
     · rename_i hc
       simp only[Option.some.injEq,Prod.mk.injEq]at hh;exact main 240 248 (by omega) hc.1 hc.2 (.inr (.inr ⟨rfl,rfl,hh.1.symm⟩)) hh.2.symm
     · cases hh
set_option maxRecDepth 100000 in
theorem vt9(s:ByteArray)(i:Nat)(w:World)(hs:s.size≤1073741824)(hi:i<s.size):
 Calls Tryz.prog 89 #[.string s,.int .i64 i] w fun e w'=>e=.returned (.tuple #[.int .i32 (refAtM ((bl s).drop i)).1,.int .i64 (refAtM ((bl s).drop i)).2])∧Below w.heap.size w w':=by
 have hL:=jb1 s;obtain⟨x,hx⟩:=jb6 (bl s) i (by omega);by_cases h8:x.toNat<128
 · have X:∀h,s[i]'h=x:=jc7 s i x hx
   have hd:=jd1 (bl s) i (List.getElem?_eq_some_iff.1 hx).1;rw[(List.getElem?_eq_some_iff.1 hx).2]at hd;have hm:refAtM ((bl s).drop i)=((x.toNat:Int),1):=by rw[hd,refAtM,if_pos h8]
   rw[hm];clear hm hd hx hL
   go_enter Tryz.func89,Tryz.ntmps89
   go_wp2
   go_ret2
   exact⟨rfl,Below.refl _ _⟩
 · cases hh:headM x.toNat with
   | some np=>exact at_multi s i x np.1 np.2 w hs hx h8 hh
   | none=>
    have X:∀h,s[i]'h=x:=jc7 s i x hx;have hd:=jd1 (bl s) i (List.getElem?_eq_some_iff.1 hx).1;rw[(List.getElem?_eq_some_iff.1 hx).2]at hd;have hm:refAtM ((bl s).drop i)=(0,0):=by rw[hd,refAtM,if_neg h8,hh]
    rw[hm];have hxl:=x.toNat_lt;have hr:x.toNat<192∨248≤x.toNat:=by
     unfold headM at hh;split at hh
     · cases hh
     · split at hh
       · cases hh
       · split at hh
         · cases hh
         · omega
    clear hm hd hx hL hh;rcases hr with hr|hr
    all_goals (
     go_enter Tryz.func89,Tryz.ntmps89
     go_wp2
     go_ret2
     exact⟨rfl,Below.refl _ _⟩)
theorem qs3(l:List UInt8)(k:Nat)(h:0≤moreM l k):k<l.length∧(l.getD k 0).toNat/64=2∧moreM l k=((l.getD k 0).toNat%64:Nat):=by
 unfold moreM at h ⊢;cases hk:l[k]? with
 | none=>rw[hk]at h;simp at h
 | some x=>
  rw[hk]at h;have hx:=(List.getElem?_eq_some_iff.1 hk).1;have hxl:=x.toNat_lt;have e:l.getD k 0=x:=by simp[List.getD,hk]
  rw[e];simp only at h ⊢;split at h
  · omega
  · rename_i hc
    rw[if_neg hc];refine⟨hx,?_,?_⟩<;>omega
theorem qb4(l:List UInt8)(k:Nat)(h:moreM l k<0):¬(k<l.length∧(l.getD k 0).toNat/64=2):=by
 rintro⟨h1,h2⟩;unfold moreM at h;have e:l[k]?=some (l.getD k 0):=by simp[List.getD,h1]
 rw[e]at h;have hxl:=(l.getD k 0).toNat_lt;simp only at h;split at h<;>omega
theorem xg2(q:Int)(h:Scal q):(encR q).length=if q<128 then 1 else if q<2048 then 2 else if q<65536 then 3 else 4:=by
 obtain⟨h0,h1,h2⟩:=h;unfold encR Lib.encodeRune;rw[List.length_map];by_cases a:q<128
 · rw[if_pos a,Lib.encodeRuneZ_one h0 (by omega)];rfl
 · rw[if_neg a]
   by_cases b:q<2048
   · rw[if_pos b,Lib.encodeRuneZ_two (by omega) (by omega)];rfl
   · rw[if_neg b]
     by_cases c:q<65536
     · rw[if_pos c,Lib.encodeRuneZ_three (by omega)];rfl
     · rw[if_neg c,Lib.encodeRuneZ_four (by omega) h1];rfl
theorem xg1(n:Nat)(q:Int):atEnd n (some q)=if(0≤q∧q≤1114111∧(q<55296∨57343<q))∧(if q<128 then 1 else if q<2048 then 2 else if q<65536 then 3 else 4)=n then(q,n)else(0,0):=by
 show(if scalar q=true∧(encR q).length=n then(q,n)else(0,0))=_;by_cases h:0≤q∧q≤1114111∧(q<55296∨57343<q)
 · have hs:scalar q=true:=by unfold scalar;simpa using h
   rw[xg2 q h];simp only[hs,h,true_and]
 · have hs:scalar q=false:=by unfold scalar;simpa using h
   simp only[hs,h,false_and,if_false,Bool.false_eq_true]
theorem vt8(l:List UInt8)(hne:l ≠ []):refAtM l=if badDec l=true then(0,0)else(((dec l).1:Int),(dec l).2):=by
 cases l with
 | nil=>exact absurd rfl hne
 | cons x r=>
  have hxl:=x.toNat_lt;have g0:(x::r).getD 0 0=x:=rfl;rw[refAtM];by_cases h8:x.toNat<128
  · rw[if_pos h8]
    have hd:dec (x::r)=(x.toNat,1):=by unfold dec Lib.decodeN;rw[g0,if_pos h8]
    have hb:badDec (x::r)=false:=by unfold badDec;rw[hd];simp;omega
    rw[hb,hd];rfl
  · rw[if_neg h8]
    have m1:=kg7 (x::r) 1;have m2:=kg7 (x::r) 2;have m3:=kg7 (x::r) 3;have a1:=qs3 (x::r) 1;have a2:=qs3 (x::r) 2;have a3:=qs3 (x::r) 3;have n1:=qb4 (x::r) 1;have n2:=qb4 (x::r) 2;have n3:=qb4 (x::r) 3;unfold badDec dec;rw[g0];generalize (x::r).length=len at *;generalize ((x::r).getD 1 0).toNat=b1 at *;generalize ((x::r).getD 2 0).toNat=b2 at *;generalize ((x::r).getD 3 0).toNat=b3 at *;unfold headM;by_cases c2:192≤x.toNat∧x.toNat<224
    · rw[if_pos c2]
      simp only[atF];generalize moreM (x::r) 1=w1 at *;by_cases h1:w1<0
      · rw[if_pos h1]
        have:=n1 h1;have hN:Lib.decodeN len x.toNat b1 b2 b3=(65533,1):=by
         unfold Lib.decodeN;rw[if_neg h8,if_neg (by omega),if_neg (by omega),if_neg (by omega)]
        rw[hN];rfl
      · rw[if_neg h1]
        obtain⟨y1,y2,y3⟩:=a1 (by omega);rw[xg1];by_cases hv:x.toNat%32*64+b1%64 ≥ 128
        · have hN:Lib.decodeN len x.toNat b1 b2 b3=(x.toNat%32*64+b1%64,2):=by
           unfold Lib.decodeN;rw[if_neg h8,if_pos ⟨by omega,by omega,by omega⟩,if_pos hv]
          rw[hN,if_pos (by refine⟨by omega,?_⟩;rw[if_neg (by omega),if_pos (by omega)])];rw[if_neg (by simp)];simp only[Prod.mk.injEq,and_true];omega
        · have hN:Lib.decodeN len x.toNat b1 b2 b3=(65533,1):=by
           unfold Lib.decodeN;rw[if_neg h8,if_pos ⟨by omega,by omega,by omega⟩,if_neg hv]
          rw[hN,if_neg (by rintro⟨_,h⟩;rw[if_pos (by omega)]at h;omega)]
          rfl
    · rw[if_neg c2]
      by_cases c3:224≤x.toNat∧x.toNat<240
      · rw[if_pos c3]
        simp only[atF];generalize moreM (x::r) 1=w1 at *;generalize moreM (x::r) (1+1)=w2 at *;have bad:(¬(1<len∧b1/64=2)∨¬(2<len∧b2/64=2))→Lib.decodeN len x.toNat b1 b2 b3=(65533,1):=by
         intro h;unfold Lib.decodeN;rw[if_neg h8,if_neg (by omega),if_neg (by omega),if_neg (by omega)]
        by_cases h1:w1<0
        · rw[if_pos h1,bad (.inl (n1 h1))];rfl
        · rw[if_neg h1]
          by_cases h2:w2<0
          · rw[if_pos h2,bad (.inr (n2 h2))];rfl
          · rw[if_neg h2]
            obtain⟨y1,y2,y3⟩:=a1 (by omega);obtain⟨z1,z2,z3⟩:=a2 (by omega);rw[xg1];by_cases hv:x.toNat%16*4096+b1%64*64+b2%64 ≥ 2048∧(x.toNat%16*4096+b1%64*64+b2%64<55296∨(57344≤x.toNat%16*4096+b1%64*64+b2%64∧x.toNat%16*4096+b1%64*64+b2%64≤1114111))
            · have hN:Lib.decodeN len x.toNat b1 b2 b3=(x.toNat%16*4096+b1%64*64+b2%64,3):=by
               unfold Lib.decodeN;rw[if_neg h8,if_neg (by omega),if_pos ⟨by omega,⟨by omega,by omega⟩,by omega,by omega⟩,if_pos hv]
              rw[hN,if_pos (by refine⟨by omega,?_⟩;rw[if_neg (by omega),if_neg (by omega),if_pos (by omega)])];rw[if_neg (by simp)];simp only[Prod.mk.injEq,and_true];omega
            · have hN:Lib.decodeN len x.toNat b1 b2 b3=(65533,1):=by
               unfold Lib.decodeN;rw[if_neg h8,if_neg (by omega),if_pos ⟨by omega,⟨by omega,by omega⟩,by omega,by omega⟩,if_neg hv]
              rw[hN,if_neg (by
               rintro⟨h,h'⟩;by_cases q1:x.toNat%16*4096+b1%64*64+b2%64<128
               · rw[if_pos (by omega)]at h';omega
               · rw[if_neg (by omega)]at h'
                 by_cases q2:x.toNat%16*4096+b1%64*64+b2%64<2048
                 · rw[if_pos (by omega)]at h';omega
                 · omega)]
              rfl
      · rw[if_neg c3]
        by_cases c4:240≤x.toNat∧x.toNat<248
        · rw[if_pos c4]
          simp only[atF];generalize moreM (x::r) 1=w1 at *;generalize moreM (x::r) (1+1)=w2 at *;generalize moreM (x::r) (1+1+1)=w3 at *;have bad:(¬(1<len∧b1/64=2)∨¬(2<len∧b2/64=2)∨¬(3<len∧b3/64=2))→Lib.decodeN len x.toNat b1 b2 b3=(65533,1):=by
           intro h;unfold Lib.decodeN;rw[if_neg h8,if_neg (by omega),if_neg (by omega),if_neg (by omega)]
          by_cases h1:w1<0
          · rw[if_pos h1,bad (.inl (n1 h1))];rfl
          · rw[if_neg h1]
            by_cases h2:w2<0
            · rw[if_pos h2,bad (.inr (.inl (n2 h2)))];rfl
            · rw[if_neg h2]
              by_cases h3:w3<0
              · rw[if_pos h3,bad (.inr (.inr (n3 h3)))];rfl
              · rw[if_neg h3]
                obtain⟨y1,y2,y3⟩:=a1 (by omega);obtain⟨z1,z2,z3⟩:=a2 (by omega);obtain⟨u1,u2,u3⟩:=a3 (by omega);rw[xg1];obtain⟨V,hV⟩:∃V,V=x.toNat%8*262144+b1%64*4096+b2%64*64+b3%64:=⟨_,rfl⟩;have hq:(((x.toNat:Int)-240)*64+w1)*64+w2=(((x.toNat:Int)-240)*64+w1)*64+w2:=rfl;have hqV:((((x.toNat:Int)-240)*64+w1)*64+w2)*64+w3=(V:Int):=by omega
                rw[hqV];by_cases hv:V ≥ 65536∧(V<55296∨(57344≤V∧V≤1114111))
                · have hN:Lib.decodeN len x.toNat b1 b2 b3=(V,4):=by
                   unfold Lib.decodeN;rw[if_neg h8,if_neg (by omega),if_neg (by omega),if_pos ⟨by omega,⟨by omega,by omega⟩,⟨by omega,by omega⟩,by omega,by omega⟩,←hV,if_pos hv]
                  rw[hN,if_pos (by refine⟨by omega,?_⟩;rw[if_neg (by omega),if_neg (by omega),if_neg (by omega)])];rw[if_neg (by simp)]
                · have hN:Lib.decodeN len x.toNat b1 b2 b3=(65533,1):=by
                   unfold Lib.decodeN;rw[if_neg h8,if_neg (by omega),if_neg (by omega),if_pos ⟨by omega,⟨by omega,by omega⟩,⟨by omega,by omega⟩,by omega,by omega⟩,←hV,if_neg hv]
                  rw[hN,if_neg (by
                   rintro⟨h,h'⟩;by_cases q1:(V:Int)<128
                   · rw[if_pos q1]at h';omega
                   · rw[if_neg q1]at h'
                     by_cases q2:(V:Int)<2048
                     · rw[if_pos q2]at h';omega
                     · rw[if_neg q2]at h'
                       by_cases q3:(V:Int)<65536
                       · rw[if_pos q3]at h';omega
                       · omega)]
                  rfl
        · rw[if_neg c4]
          have hN:Lib.decodeN len x.toNat b1 b2 b3=(65533,1):=by
           unfold Lib.decodeN;rw[if_neg h8,if_neg (by omega),if_neg (by omega),if_neg (by omega)]
          rw[hN];rfl
def RPtsS(S:Nat×Option Nat)(P:List Int)(w:World)(e:Ending)(w':World):Prop:=(match S.2 with
 | some k=>e=.returned (.tuple #[.slice none 0 0,.int .i64 (k:Nat)])
 | none=>∃v,e=.returned (.tuple #[v,.int .i64 (-1)])∧OwnI w' w.heap.size v P)∧Below w.heap.size w w'
def RPts(l:List UInt8)(w:World)(e:Ending)(w':World):Prop:=RPtsS (scanL l) (pts l) w e w'
set_option maxRecDepth 100000 in
theorem jx1(s:ByteArray)(w:World)(hs:s.size≤1073741824):Calls Tryz.prog 51 #[.string s] w (RPts (bl s) w):=by
 have HL:Hid ((bl s).length=s.size):=jb1 s;have K1:=Lib.hid (fun i w hi=>vt9 s i w hs hi);obtain⟨S,hS⟩:∃S,S=scanL (bl s):=⟨_,rfl⟩;obtain⟨P,hP⟩:∃P,P=pts (bl s):=⟨_,rfl⟩;unfold RPts;rw[←hS,←hP];have HS:=Lib.hid hS;have HP:=Lib.hid hP;clear hS hP
 go_enter Tryz.func51,Tryz.ntmps51
 go_wp2
 go_loopw [4,5] (fun v iv wr=>∃(f k:Nat) (acc:List Int),iv=.int .i64 (k:Int)∧OwnI wr w.heap.size v acc∧k≤s.size∧acc.length≤k∧s.size-k≤f∧Hid (scanF f ((bl s).drop k) k acc.length=S)∧Hid (acc++pts ((bl s).drop k)=P)∧Below w.heap.size w wr) (fun _ iv _=>s.size-(intOf iv).toNat)
 case atStart=>exact⟨s.size,0,[],rfl,World.ownsRow_nil _ _ _ _,Nat.zero_le _,Nat.le_refl _,by omega,Lib.hid (by have:=HS.out;unfold scanL at this;rw[HL.out]at this;rw[List.drop_zero];exact this.symm),Lib.hid (by rw[List.drop_zero,HP.out];rfl),Below.refl _ _⟩
 case round=>
  obtain⟨f,k,acc,rfl,hown,hk,hacc,hf,hQ,hPt,hbel⟩:=hrel;by_cases hlt:k<s.size
  · have hne:(bl s).drop k ≠ []:=js4 (by rw[HL.out];exact hlt)
    have hat:=vt8 ((bl s).drop k) hne;have k1:=fun w=>K1.out k w hlt
    rw[hat]at k1;obtain⟨f,rfl⟩:∃g,f=g+1:=⟨f-1,by omega⟩;cases hb:badDec ((bl s).drop k)with
    | true=>
     rw[hb]at k1;simp only[if_true]at k1;have e1:=hQ.out;rw[kk1 f _ k _ hne hb]at e1;have K1':=Lib.hid k1;have E1:=Lib.hid e1;clear k1 e1;clear hat hb hne hQ
     go_wp2_with (go_at_call 89;refine(K1'.out _).mono ?_;rintro e w1 ⟨rfl,hb1⟩)
     refine bodyPost_ret (v:=.tuple #[.slice none 0 0,.int .i64 k]) (by simp[results,Tryz.results51,go_sem]) rfl ?_;refine(show RPtsS _ _ _ _ _ from⟨?_,bt hbel hb1⟩);rw[←E1.out]
    | false=>
     rw[hb]at k1;simp only[Bool.false_eq_true,if_false]at k1;have e1:=hQ.out;rw[js9 f _ k _ hne hb,List.drop_drop]at e1;have e2:=hPt.out;rw[kg3 _ hne,List.drop_drop]at e2;have hdp:=jg2 ((bl s).drop k);have hdl:=jz3 _ hne;rw[List.length_drop,HL.out]at hdl;have hdr:=jz2 ((bl s).drop k);rcases hd:dec ((bl s).drop k)with⟨p,j⟩
     rw[hd]at k1 e1 e2 hdp hdl hdr;simp only at k1 e1 e2 hdp hdl hdr;have e3:(acc ++ [(p:Int)])++pts ((bl s).drop (k+j))=P:=by rw[List.append_assoc];exact e2
     have e4:scanF f ((bl s).drop (k+j)) (k+j) (acc ++ [(p:Int)]).length=S:=by rw[List.length_append];exact e1
     have hj:((j:Int)==0)=false:=by simp;omega
     have K1':=Lib.hid k1;have E3:=Lib.hid e3;have E4:=Lib.hid e4;clear k1 e3 e4;clear hat hb hne hQ hd e1 e2
     go_wp2_with (first
      | (go_at_call 89;refine(K1'.out _).mono ?_;rintro e w1 ⟨rfl,hb1⟩)
      | (at_builtin;(refine jc4 rfl _ _ 105 21 rfl Tryz.underlying105 (.int .i32 0) 1 4 qc1 rfl (by decide) w1 w.heap.size u4 acc.length (icells acc) rfl (OwnI.bel hown hb1) #[.int .i32 (p:Int)] rfl (by simp[Value.oneCell']) rfl (by omega) (by omega) (bt hbel hb1).size ?_;intro v' w4 hown4 hb4 hk4)))
     have hown5:OwnI w4 w.heap.size v' (acc ++ [(p:Int)]):=by
      unfold OwnI;rw[jx4,List.length_append];exact hown4
     go_roundw
     case rel=>exact⟨f,k+j,acc ++ [(p:Int)],by go_num,hown5,by omega,by rw[List.length_append];simp;omega,by omega,E4,E3,(bt hbel hb1).trans hb4⟩
     case measure=>simp[intOf];omega
  · have hkk:k=s.size:=by omega
    subst hkk;have e1:=hQ.out;have e2:=hPt.out;rw[List.drop_of_length_le (by rw[HL.out];exact Nat.le_refl _),kk0]at e1;rw[List.drop_of_length_le (by rw[HL.out];exact Nat.le_refl _),kz6,List.append_nil]at e2;have E1:=Lib.hid e1;have E2:=Lib.hid e2;clear e1 e2;clear hQ hPt
    go_wp2
    refine bodyPost_ret (v:=.tuple #[u4,.int .i64 (-1)]) (by simp[results,Tryz.results51,go_sem]) rfl ?_;refine(show RPtsS _ _ _ _ _ from⟨?_,hbel⟩);rw[←E1.out];exact⟨_,rfl,by rw[←E2.out];exact hown⟩
end Go.Proofs.YtagjkmkmphamoaaGreatDoor
