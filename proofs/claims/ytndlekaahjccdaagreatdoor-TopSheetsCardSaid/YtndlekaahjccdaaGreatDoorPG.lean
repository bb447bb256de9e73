/- PG -/
import Derived.Test.YtndlekaahjccdaaGreatDoorPF
import Derived.Deep.Slices
import Derived.Deep.DrawnRows
set_option linter.all false
set_option maxRecDepth 100000
set_option maxHeartbeats 40000000
set_option maxHeartbeats 8000000
noncomputable section
namespace Go.Proofs.YtndlekaahjccdaaGreatDoor
open Go.RowKit Go.Proofs.Tryz
def y3w(c:Int):Bool->List Int->Int->Int
 | _,[],n=>n
 | s,p::l,n=>y3w c (letterB p) l (n+weightM c p-(if s&&capitalB p then 3 else 0))
def y8G(c:Int)(t:List UInt8):Int:=y3w c false (pts t) 0
def y0K(c:Int)(l:List UInt8):Option Int:=if 0<=c/\c<=6 then(match decT (tokC c) l with|(t,none)=>some (y8G c t)|(_,some _)=>none)else none
def scoreV:Option Int->Value
 | some n=>.tuple #[.int .i64 n,.bool true]
 | none=>.tuple #[.int .i64 0,.bool false]
def ScPost(r:Option Int)(w:World)(e:Ending)(w':World):Prop:=e=.returned (scoreV r)/\Below w.heap.size w w'
def y5w(c:Int):Value->Value
 | .int .i32 p=>.int .i64 (weightM c p)
 | v=>v
theorem y9b(c:Int)(s:Bool)(p:Int)(l:List Int)(n:Int):y3w c s (p::l) n=y3w c (letterB p) l (n+weightM c p-(if s&&capitalB p then 3 else 0)):=rfl
theorem y9P(w:World):(zeroValue 3).run prog w=.ok (.int .i64 0) w:=by simp[zeroValue,underlying3,go_sem];rfl
theorem yCL(c:Int)(b tb:ByteArray)(w:World)(hT:TW w)(hb:b.size<=1048576)(h0:0<=c)(h1:c<=6)(hd:decT (tokC c) (bl b)=(bl tb,none)):
 Calls prog 129 #[.int .i64 c,.string b] w (ScPost (some (y8G c (bl tb))) w):=by
 have k1:=fun w=>y2N c w
 rw[show decide (0<=c/\c<=6)=true by simp[h0,h1]]at k1;have k2:=fun w hT=>y0y c b w hT (by omega)
 rw[y1A c _ (by omega),hd]at k2;simp only[faultV]at k2;rw[show(⟨(bl tb).toArray⟩:ByteArray)=tb from y1Z tb]at k2;have k3:∀w,Calls prog 11 #[.agg #[.int .i64 0,.int .i64 0]] w fun e w'=>e=.returned (.bool false)/\Below w.heap.size w w':=fun w=>y0a 0 0 w
 have k4:=fun p w HQ Hz=>yC4 c p w h0 h1 HQ Hz
 have kA:tb.size<=1073741824:=by
  have:=yD3 (yJ7 c) (bl b);rw[hd,zJ,zJ]at this;omega
 obtain⟨R,hR⟩:∃R,R=y8G c (bl tb):=⟨_,rfl⟩;rw[<-hR];have K1:=z7 k1;have K2:=z7 k2;have K3:=z7 k3;have K4:=z7 k4;have HR:=z7 hR;have HT:=z7 hT;clear k1 k2 k3 k4 hR hT;clear hd;have Hm:Hid ((bl tb).length=tb.size):=zJ tb
 go_enter func129,ntmps129
 go_wp2_with (first
  | (go_at_call 14;refine(K1.out _).mono ?_;rintro e w0 ⟨rfl,Hk⟩)
  | (go_at_call 108;refine(K2.out _ (HT.out.bel Hk)).mono ?_;rintro e w1 ⟨rfl,Hu⟩)
  | (go_at_call 11;refine(K3.out _).mono ?_;rintro e w2 ⟨rfl,Ht⟩)
  | (refine y1S rfl _ rfl _ ?_))
 have Hs:=bt (bal (bt Hk Hu) _) Ht;have Hw:=MemoG.made 21 (y5w c) w2;have Hj:Below (w2.alloc (.map #[] 0)).heap.size (w2.alloc (.map #[] 0)) ((w2.alloc (.map #[] 0)).iter tb 0):=(z8).alloc (zA) _;have Hy:=ItS.made (w2.alloc (.map #[] 0)) tb;have kx:=Hw.bel Hj;have ky:Below w2.heap.size w2 ((w2.alloc (.map #[] 0)).iter tb 0):=bt (bal (z8) _) Hj;have Hp:(w2.alloc (.map #[] 0)).heap.size=w2.heap.size+1:=World.size_alloc _ _;generalize (w2.alloc (.map #[] 0)).iter tb 0=W0 at *;rw[Hp]at Hy;clear Hj Hw Hp Hk Hu Ht
 go_loopw [9,10] (fun nv sv wr=>∃(k:Nat) (s:Bool) (n:Int),nv=.int .i64 n/\sv=.bool s/\ItS wr (w2.heap.size+1) tb k/\k<=tb.size/\Hid (y3w c s (pts ((bl tb).drop k)) n=R) /\ -11*(k:Int)<=n/\n<=6*(k:Int)/\MemoG 21 (y5w c) wr w2.heap.size/\Below w2.heap.size w2 wr) (fun _ _ wr=>tb.size-wr.iterPos (w2.heap.size+1))
 case atStart=>exact⟨0,false,0,rfl,rfl,Hy,zD,by have:=HR.out;unfold y8G at this;rw[List.drop_zero];exact z7 this.symm,by omega,by omega,kx,ky⟩
 case round=>
  obtain⟨k,s,n,rfl,rfl,hI,hk,Hh,kD,kC,hM,H5⟩:=hrel;have Hb:=hI.pos;have Ha:=z7 Hb;clear Hb;by_cases Hg:k<tb.size
  . rcases hd:dec ((bl tb).drop k)with⟨p,j⟩
    have Hr:=y0A ((bl tb).drop k);have Hq:=y3M ((bl tb).drop k);have H9:(bl tb).drop k ≠ []:=y27 (by rw[Hm.out];exact Hg);have Hi:=y3N _ H9;rw[List.length_drop,Hm.out]at Hi;have hp:=y7L _ H9;rw[List.drop_drop]at hp;rw[hd]at Hr Hq Hi hp;simp only at Hr Hq Hi hp;have e1:=Hh.out;rw[hp,y9b]at e1;have kz:=yDU c p;have Hd:=keyR p (by omega) (by omega);have hF:Hid (y5w c (.int .i32 p)=.int .i64 (weightM c p)):=rfl;have k4:=fun w=>K4.out p w (by omega) (by omega)
    have k5:=fun w=>y6T p w
    have k6:=fun w=>y5h p w
    generalize weightM c p=W at *;generalize letterB p=L at *;generalize capitalB p=C at *;have Ho:IntKind.i64.wrap (n+W)=n+W:=wi64 _ (by omega) (by omega);have Hn:IntKind.i64.wrap (n+W-3)=n+W-3:=wi64 _ (by omega) (by omega);have Hv:∀w':World,(∀j,j≠w2.heap.size+1->w'.heap[j]?=wr.heap[j]?)->MemoG 21 (y5w c) w' w2.heap.size:=fun w' h=>hM.blk (h _ (by omega))
    have K4':=z7 k4;have K5:=z7 k5;have K6:=z7 k6;have kH:=z7 Ho;have kF:=z7 Hn;have Hl:=z7 Hv;have H6:=z7 Hd;clear k4 k5 k6 Ho Hn Hv Hd;clear hp H9 Hh;cases s
    . have e1:y3w c L (pts ((bl tb).drop (k+j))) (n+W)=R:=by simpa using e1
      have E1:=z7 e1;have Hf:=z7 hd;clear e1 hd
      go_wp2_with (first
       | (at_next;refine zu rfl _ rfl wr (w2.heap.size+1) tb k rfl hI Hg p j Hf ?_;intro w3 IW Hc He;have MW:=Hl.out w3 Hc;have BW:=H5.grown He H5.size (by intro q hq;cases hq;omega))
       | (at_lookup;refine y1t w3 rfl 248 _ _ rfl 21 3 y3E underlying248 (.int .i64 0) (y9P w3) (y5w c) w2.heap.size rfl MW (.int .i32 p) _ rfl H6.out (.int .i64 W) hF ?_ ?_)
       | (go_at_call 208;refine(K4'.out _).mono ?_;rintro e w4 ⟨rfl,H7⟩;have IW:=IW.bel H7;have MW:=MW.bel H7;have BW:=bt BW H7)
       | (at_mapUpdate;(refine y1R w4 rfl 248 _ _ _ rfl 21 3 y3E underlying248 (y5w c) w2.heap.size rfl MW (.int .i32 p) (.int .i64 W) _ rfl H6.out rfl hF ?_;intro w5 MW5 H8;have IW:=IW.grown H8 (by simp);have MW:=MW5;have BW:=BW.grown H8 BW.size (by intro q hq;cases hq;omega)))
       | (go_at_call 210;refine(K5.out _).mono ?_;rintro e w6 ⟨rfl,rfl⟩)
       | (go_at_call 209;refine(K6.out _).mono ?_;rintro e w6 ⟨rfl,rfl⟩))
      all_goals exact⟨⟨k+j,L,_,rfl,rfl,IW,by omega,E1,by omega,by omega,MW,BW⟩,by rw[Ha.out,IW.pos];omega⟩
    . cases C
      . have e1:y3w c L (pts ((bl tb).drop (k+j))) (n+W)=R:=by simpa using e1
        have E1:=z7 e1;have Hf:=z7 hd;clear e1 hd
        go_wp2_with (first
         | (at_next;refine zu rfl _ rfl wr (w2.heap.size+1) tb k rfl hI Hg p j Hf ?_;intro w3 IW Hc He;have MW:=Hl.out w3 Hc;have BW:=H5.grown He H5.size (by intro q hq;cases hq;omega))
         | (at_lookup;refine y1t w3 rfl 248 _ _ rfl 21 3 y3E underlying248 (.int .i64 0) (y9P w3) (y5w c) w2.heap.size rfl MW (.int .i32 p) _ rfl H6.out (.int .i64 W) hF ?_ ?_)
         | (go_at_call 208;refine(K4'.out _).mono ?_;rintro e w4 ⟨rfl,H7⟩;have IW:=IW.bel H7;have MW:=MW.bel H7;have BW:=bt BW H7)
         | (at_mapUpdate;(refine y1R w4 rfl 248 _ _ _ rfl 21 3 y3E underlying248 (y5w c) w2.heap.size rfl MW (.int .i32 p) (.int .i64 W) _ rfl H6.out rfl hF ?_;intro w5 MW5 H8;have IW:=IW.grown H8 (by simp);have MW:=MW5;have BW:=BW.grown H8 BW.size (by intro q hq;cases hq;omega)))
         | (go_at_call 210;refine(K5.out _).mono ?_;rintro e w6 ⟨rfl,rfl⟩)
         | (go_at_call 209;refine(K6.out _).mono ?_;rintro e w6 ⟨rfl,rfl⟩))
        all_goals exact⟨⟨k+j,L,_,rfl,rfl,IW,by omega,E1,by omega,by omega,MW,BW⟩,by rw[Ha.out,IW.pos];omega⟩
      . have e1:y3w c L (pts ((bl tb).drop (k+j))) (n+W-3)=R:=by simpa using e1
        have E1:=z7 e1;have Hf:=z7 hd;clear e1 hd
        go_wp2_with (first
         | (at_next;refine zu rfl _ rfl wr (w2.heap.size+1) tb k rfl hI Hg p j Hf ?_;intro w3 IW Hc He;have MW:=Hl.out w3 Hc;have BW:=H5.grown He H5.size (by intro q hq;cases hq;omega))
         | (at_lookup;refine y1t w3 rfl 248 _ _ rfl 21 3 y3E underlying248 (.int .i64 0) (y9P w3) (y5w c) w2.heap.size rfl MW (.int .i32 p) _ rfl H6.out (.int .i64 W) hF ?_ ?_)
         | (go_at_call 208;refine(K4'.out _).mono ?_;rintro e w4 ⟨rfl,H7⟩;have IW:=IW.bel H7;have MW:=MW.bel H7;have BW:=bt BW H7)
         | (at_mapUpdate;(refine y1R w4 rfl 248 _ _ _ rfl 21 3 y3E underlying248 (y5w c) w2.heap.size rfl MW (.int .i32 p) (.int .i64 W) _ rfl H6.out rfl hF ?_;intro w5 MW5 H8;have IW:=IW.grown H8 (by simp);have MW:=MW5;have BW:=BW.grown H8 BW.size (by intro q hq;cases hq;omega)))
         | (go_at_call 210;refine(K5.out _).mono ?_;rintro e w6 ⟨rfl,rfl⟩)
         | (go_at_call 209;refine(K6.out _).mono ?_;rintro e w6 ⟨rfl,rfl⟩))
        all_goals exact⟨⟨k+j,L,_,rfl,rfl,IW,by omega,E1,by omega,by omega,MW,BW⟩,by rw[Ha.out,IW.pos];omega⟩
  . have k9:k=tb.size:=by omega
    subst k9;have e1:=Hh.out;rw[List.drop_of_length_le (by rw[Hm.out];exact zA),y9t]at e1;have e2:n=R:=e1;have E2:=z7 e2;clear e2;clear e1 Hh
    go_wp2_with (at_next;refine y10 rfl _ rfl wr (w2.heap.size+1) tb tb.size rfl hI (zA) ?_)
    refine bodyPost_ret (v:=.tuple #[.int .i64 n,.bool true]) (by simp[results,results129,go_sem]) rfl ?_;refine(show ScPost _ _ _ _ from⟨by rw[<-E2.out];rfl,Hs.trans (H5.mono Hs.size)⟩)
theorem yEB(c:Int)(b:ByteArray)(w:World)(h:¬(0<=c/\c<=6)):Calls prog 129 #[.int .i64 c,.string b] w (ScPost none w):=by
 have k1:=fun w=>y2N c w
 rw[show decide (0<=c/\c<=6)=false by simpa using h]at k1;have K1:=z7 k1;clear k1;clear h
 go_enter func129,ntmps129
 go_wp2_with (go_at_call 14;refine(K1.out _).mono ?_;rintro e w0 ⟨rfl,H5⟩)
 refine bodyPost_ret (v:=.tuple #[.int .i64 0,.bool false]) (by simp[results,results129,go_sem]) rfl ?_;exact(show ScPost _ _ _ _ from⟨rfl,H5⟩)
theorem yEC(c:Int)(b:ByteArray)(w:World)(hT:TW w)(hb:b.size<=1048576)(h0:0<=c)(h1:c<=6)(t:List UInt8)(k:Nat)(hd:decT (tokC c) (bl b)=(t,some k)):Calls prog 129 #[.int .i64 c,.string b] w (ScPost none w):=by
 have k1:=fun w=>y2N c w
 rw[show decide (0<=c/\c<=6)=true by simp[h0,h1]]at k1;have k2:=fun w hT=>y0y c b w hT (by omega)
 rw[y1A c _ (by omega),hd]at k2;simp only[faultV]at k2;have k3:∀w,Calls prog 11 #[.agg #[.int .i64 2,.int .i64 k]] w fun e w'=>e=.returned (.bool true)/\Below w.heap.size w w':=fun w=>y0a 2 k w
 have K1:=z7 k1;have K2:=z7 k2;have K3:=z7 k3;have HT:=z7 hT;clear k1 k2 k3 hT;clear hd
 go_enter func129,ntmps129
 go_wp2_with (first
  | (go_at_call 14;refine(K1.out _).mono ?_;rintro e w0 ⟨rfl,H5⟩)
  | (go_at_call 108;refine(K2.out _ (HT.out.bel H5)).mono ?_;rintro e w1 ⟨rfl,H7⟩)
  | (go_at_call 11;refine(K3.out _).mono ?_;rintro e w2 ⟨rfl,H6⟩))
 refine bodyPost_ret (v:=.tuple #[.int .i64 0,.bool false]) (by simp[results,results129,go_sem]) rfl ?_;exact(show ScPost _ _ _ _ from⟨rfl,bt (bal (bt H5 H7) _) H6⟩)
theorem y8F(c:Int)(b:ByteArray)(w:World)(hT:TW w)(hb:b.size<=1048576):Calls prog 129 #[.int .i64 c,.string b] w (ScPost (y0K c (bl b)) w):=by
 by_cases h:0<=c/\c<=6
 . rcases hd:decT (tokC c) (bl b)with⟨t,_|k⟩
   . have e:y0K c (bl b)=some (y8G c t):=by unfold y0K;rw[if_pos h,hd]
     rw[e];exact yCL c b ⟨t.toArray⟩ w hT hb h.1 h.2 hd
   . have e:y0K c (bl b)=none:=by unfold y0K;rw[if_pos h,hd]
     rw[e];exact yEC c b w hT hb h.1 h.2 t k hd
 . have e:y0K c (bl b)=none:=by unfold y0K;rw[if_neg h]
   rw[e];exact yEB c b w h
def y0w(S:Int->Option Int):List Int->Int×Int×Bool->Int×Int×Bool
 | [],st=>st
 | c::l,(best,g,f)=>match S c with
  | some n=>if best<n then y0w S l (n,c,true)else y0w S l (best,g,f)
  | none=>y0w S l (best,g,f)
def guessR(b:List UInt8)(l:List Int):Int×Int×Bool:=y0w (fun c=>y0K c b) l (0,0,false)
theorem y5X{S:Int->Option Int}{c:Int}(h:S c=none)(l:List Int)(a g:Int)(f:Bool):y0w S (c::l) (a,g,f)=y0w S l (a,g,f):=by rw[y0w,h]
theorem y0Q{S:Int->Option Int}{c n:Int}(h:S c=some n)(l:List Int)(a g:Int)(f:Bool)(hl:¬a<n):y0w S (c::l) (a,g,f)=y0w S l (a,g,f):=by rw[y0w,h];simp only;rw[if_neg hl]
theorem y5Y{S:Int->Option Int}{c n:Int}(h:S c=some n)(l:List Int)(a g:Int)(f:Bool)(hl:a<n):y0w S (c::l) (a,g,f)=y0w S l (n,c,true):=by rw[y0w,h];simp only;rw[if_pos hl]
def ccells(l:List Int):List Value:=l.map fun c=>Value.int .i64 c
def yIn(r:Int×Int×Bool)(w:World)(e:Ending)(w':World):Prop:=e=.returned (.tuple #[.int .i64 r.2.1,.bool r.2.2])/\Below w.heap.size w w'
theorem yFb(b:ByteArray)(v:Value)(l:List Int)(w:World)(hT:TW w)(hb:b.size<=1048576)(H6:Row w v l.length (ccells l))(hl:l.length<=1073741824):
 Calls prog 130 #[.string b,v] w (yIn (guessR (bl b) l) w):=by
 have k1:=fun c w hT=>y8F c b w hT hb
 obtain⟨R,hR⟩:∃R,R=guessR (bl b) l:=⟨_,rfl⟩;rw[<-hR];unfold guessR at hR;obtain⟨S,hS⟩:∃S:Int->Option Int,S=fun c=>y0K c (bl b):=⟨_,rfl⟩
 rw[<-hS]at hR;have k2:∀c w,TW w->Calls prog 129 #[.int .i64 c,.string b] w (ScPost (S c) w):=by rw[hS];exact k1
 obtain⟨n,hn⟩:∃n,n=l.length:=⟨_,rfl⟩;rw[<-hn]at H6 hl;have H7:=H6;obtain⟨a,cap,rfl,_⟩:=H7;have K2:=z7 k2;have HR:=z7 hR;have HT:=z7 hT;have H9:=z7 H6;have HN:=z7 hn;clear k2 hR hT H6 hn;clear k1 hS
 go_enter func130,ntmps130
 go_wp2
 go_loopw [15,6,7,8] (fun iv bv fv gv wr=>∃(i:Nat) (best g:Int) (f:Bool),iv=.int .i64 (i:Int)/\bv=.int .i64 best/\fv=.bool f/\gv=.int .i64 g/\i<=n/\Hid (y0w S (l.drop i) (best,g,f)=R)/\Below w.heap.size w wr) (fun iv _ _ _ _=>n-(intOf iv).toNat)
 case atStart=>exact⟨0,0,0,false,rfl,rfl,rfl,rfl,zD,z7 (by rw[List.drop_zero];exact HR.out.symm),z8⟩
 case round=>
  obtain⟨i,best,g,f,rfl,rfl,rfl,rfl,hi,hG,H5⟩:=hrel;by_cases Hc:i<n
  . obtain⟨c,hc⟩:=zM l i (by rw[<-HN.out];exact Hc)
    obtain⟨gb,o,cap',he,Ha⟩:=y0X (H9.out.keep H5) i (.int .i64 c) (by unfold ccells;rw[List.getElem?_map,hc];rfl);simp only[Value.slice.injEq]at he;obtain⟨rfl,_,rfl⟩:=he;have hd:=drop_at l i (List.getElem?_eq_some_iff.1 hc).1;rw[(List.getElem?_eq_some_iff.1 hc).2]at hd;have e1:=hG.out;rw[hd]at e1;cases hs:S c with
    | none=>
     have k3:∀w,TW w->Calls prog 129 #[.int .i64 c,.string b] w fun e w'=>e=.returned (.tuple #[.int .i64 0,.bool false])/\Below w.heap.size w w':=by
      intro w hT;have:=K2.out c w hT;rw[hs]at this;exact this
     rw[y5X hs]at e1;have K3:=z7 k3;have E1:=z7 e1;clear k3 e1;clear hs hc hd hG
     go_wp2_with (go_at_call 129;refine(K3.out _ (HT.out.bel H5)).mono ?_;rintro e w1 ⟨rfl,H8⟩)
     go_roundw
     case rel=>exact⟨i+1,best,g,f,by go_num,rfl,rfl,rfl,by omega,E1,bt H5 H8⟩
     case measure=>simp[intOf];omega
    | some m=>
     have k3:∀w,TW w->Calls prog 129 #[.int .i64 c,.string b] w fun e w'=>e=.returned (.tuple #[.int .i64 m,.bool true])/\Below w.heap.size w w':=by
      intro w hT;have:=K2.out c w hT;rw[hs]at this;exact this
     by_cases hm:best<m
     . rw[y5Y hs _ _ _ _ hm]at e1
       have Hb:decide (best<m)=true:=by simpa using hm
       have K3:=z7 k3;have E1:=z7 e1;clear k3 e1;clear hs hc hd hG
       go_wp2_with (go_at_call 129;refine(K3.out _ (HT.out.bel H5)).mono ?_;rintro e w1 ⟨rfl,H8⟩)
       go_roundw
       case rel=>exact⟨i+1,m,c,true,by go_num,rfl,rfl,rfl,by omega,E1,bt H5 H8⟩
       case measure=>simp[intOf];omega
     . rw[y0Q hs _ _ _ _ hm]at e1
       have Hb:decide (best<m)=false:=by simpa using hm
       have K3:=z7 k3;have E1:=z7 e1;clear k3 e1;clear hs hc hd hG
       go_wp2_with (go_at_call 129;refine(K3.out _ (HT.out.bel H5)).mono ?_;rintro e w1 ⟨rfl,H8⟩)
       go_roundw
       case rel=>exact⟨i+1,best,g,f,by go_num,rfl,rfl,rfl,by omega,E1,bt H5 H8⟩
       case measure=>simp[intOf];omega
  . have Hd:i=n:=by omega
    subst Hd;have e1:=hG.out;rw[List.drop_of_length_le (by rw[<-HN.out];exact zA),y0w]at e1;have E1:=z7 e1;clear e1;clear hG;go_wp2
    refine bodyPost_ret (v:=.tuple #[.int .i64 g,.bool f]) (by simp[results,results130,go_sem]) rfl ?_;exact(show yIn _ _ _ _ from⟨by rw[<-E1.out],H5⟩)
def orderL:List Int:=[4,6,5,1,2,3,0]
theorem yEi(w:World):Calls prog 131 #[] w fun e w'=>∃v,e=.returned v/\Row w' v 7 (ccells orderL)/\Below w.heap.size w w':=by
 go_enter func131,ntmps131
 go_wp2
 go_ret
 exact⟨_,rfl,yHB w #[.int .i64 4,.int .i64 6,.int .i64 5,.int .i64 1,.int .i64 2,.int .i64 3,.int .i64 0] 23,bal (z8) _⟩
end Go.Proofs.YtndlekaahjccdaaGreatDoor
set_option maxHeartbeats 4000000
namespace Go.Proofs.YtndlekaahjccdaaGreatDoor
open Go.RowKit Go.Proofs.Tryz
theorem yC8:∀(f:Nat) (l:List UInt8) (at_ n:Nat),Lib.validGoD f l=(scanF f l at_ n).2.isNone:=by
 intro f
 induction f with
 | zero=>intro l at_ n;rfl
 | succ f ih=>
  intro l at_ n;rw[Lib.validGoD,scanF];by_cases h:l = []
  . rw[if_pos h,if_pos h];rfl
  . rw[if_neg h,if_neg h,Lib.decodeL_N]
    have hp:=y0A l;unfold y00;show(if(dec l).1=65533/\(dec l).2=1 then false else Lib.validGoD f (l.drop (dec l).2))=_;by_cases hb:(dec l).1=65533/\(dec l).2=1
    . rw[if_pos hb,if_pos (by rw[Bool.and_eq_true,decide_eq_true_eq,decide_eq_true_eq];omega)];rfl
    . rw[if_neg hb,if_neg (by rw[Bool.and_eq_true,decide_eq_true_eq,decide_eq_true_eq];omega)]
      exact ih _ _ _
theorem y88(s:ByteArray)(w:World)(hT:TW w)(hs:s.size<=9223372036854775807):
 Calls prog 117 #[.string s] w fun e w'=>e=.returned (.bool (scanL (bl s)).2.isNone)/\Below w.heap.size w w':=by
 have k1:∀w,TW w->Calls prog 196 #[.string s] w fun e w'=>e=.returned (.bool (scanL (bl s)).2.isNone)/\Below w.heap.size w w':=by
  intro w hT;have h:=Any.utf8_ValidString Tryz.laysValid s w hs hT.u8;have e:Lib.validD s.data.toList=(scanL (bl s)).2.isNone:=yC8 _ _ _ _;rw[e]at h;exact h
 generalize (scanL (bl s)).2.isNone=r at *;have K1:=z7 k1;clear k1
 go_enter func117,ntmps117
 go_wp2_with (go_at_call 196;refine(K1.out _ hT).mono ?_;rintro e w1 ⟨rfl,H5⟩)
 go_ret
 exact⟨rfl,H5⟩
theorem sc_ko:y0K 1 [193,194]=some 8:=by decide +kernel
theorem sc_1:y0K 1 [176,161]=some (-8):=by decide +kernel
theorem sc_2:y0K 2 [176,161]=some (-8):=by decide +kernel
theorem sc_3:y0K 3 [176,161]=some 0:=by decide +kernel
theorem sc_0:y0K 0 [176,161]=some (-2):=by decide +kernel
theorem sc_6:y0K 6 [176,161]=none:=by decide +kernel
theorem sc_5:y0K 5 [176,161]=some 2:=by decide +kernel
theorem sc_4:y0K 4 [176,161]=some 6:=by decide +kernel
theorem yI1:guessR [176,161] orderL=(6,4,true):=by
 have h4:=sc_4;have h6:=sc_6;have h5:=sc_5;have h1:=sc_1;have h2:=sc_2;have h3:=sc_3;have h0:=sc_0;unfold guessR orderL;obtain⟨S,hS⟩:∃S:Int->Option Int,S=fun c=>y0K c [176,161]:=⟨_,rfl⟩
 rw[<-hS];have e4:S 4=some 6:=by rw[hS];exact h4
 have e6:S 6=none:=by rw[hS];exact h6
 have e5:S 5=some 2:=by rw[hS];exact h5
 have e1:S 1=some (-8):=by rw[hS];exact h1
 have e2:S 2=some (-8):=by rw[hS];exact h2
 have e3:S 3=some 0:=by rw[hS];exact h3
 have e0:S 0=some (-2):=by rw[hS];exact h0
 rw[y5Y e4 _ _ _ _ (by decide),y5X e6,y0Q e5 _ _ _ _ (by decide),y0Q e1 _ _ _ _ (by decide),y0Q e2 _ _ _ _ (by decide),y0Q e3 _ _ _ _ (by decide),y0Q e0 _ _ _ _ (by decide)];rfl
theorem yAl(w:World)(hT:TW w):Calls prog 65 #[] w fun e w'=>e=.returned (.bool true)/\Below w.heap.size w w':=by
 have k1:∀w,TW w->Calls prog 129 #[.int .i64 1,.string ⟨#[193,194]⟩] w fun e w'=>e=.returned (.tuple #[.int .i64 8,.bool true])/\Below w.heap.size w w':=fun w hT=>by
  have h:=y8F 1 ⟨#[193,194]⟩ w hT (by decide);rw[show bl ⟨#[193,194]⟩ = [193,194] from rfl,sc_ko]at h;exact h
 have k2:∀v w,TW w->Row w v 7 (ccells orderL)->Calls prog 130 #[.string ⟨#[176,161]⟩,v] w fun e w'=>e=.returned (.tuple #[.int .i64 4,.bool true])/\Below w.heap.size w w':=fun v w hT hr=>by
  have h:=yFb ⟨#[176,161]⟩ v orderL w hT (by decide) hr (by decide);rw[show bl ⟨#[176,161]⟩ = [176,161] from rfl,yI1]at h;exact h
 have k3:=fun w=>yEi w
 have k4:=fun w hT=>y5k w hT
 have K1:=z7 k1;have K2:=z7 k2;have K3:=z7 k3;have K4:=z7 k4;clear k1 k2 k3 k4
 go_enter func65,ntmps65
 go_wp2_with (first
  | (go_at_call 129;refine(K1.out _ hT).mono ?_;rintro e w1 ⟨rfl,H6⟩)
  | (go_at_call 131;refine(K3.out _).mono ?_;rintro e w2 ⟨v,rfl,hr,H5⟩)
  | (go_at_call 130;refine(K2.out _ _ (hT.bel (bt H6 H5)) hr).mono ?_;rintro e w3 ⟨rfl,H7⟩)
  | (go_at_call 132;refine(K4.out _ (hT.bel (bt (bt H6 H5) H7))).mono ?_;rintro e w4 ⟨rfl,H8⟩))
 go_ret
 exact⟨rfl,bt (bt (bt H6 H5) H7) H8⟩
end Go.Proofs.YtndlekaahjccdaaGreatDoor
namespace Go.Proofs
open Tryz
open Go.Shelf
def Tryz.lays160_ren:Go.Shelf.Ren:=⟨fun|160=>166|232=>258|231=>257|227=>259|234=>261|233=>260|236=>263|235=>262|228=>266|271=>324|151=>323|197=>322|120=>375|152=>264|260=>374|137=>286|119=>325|224=>326|225=>327|217=>339|266=>383|n=>n,fun|9=>9|4=>4|3=>3|5=>5|117=>279|116=>278|0=>0|124=>282|21=>21|105=>47|46=>224|119=>314|139=>317|138=>316|n=>n,fun|3=>1|4=>2|n=>n⟩
theorem Tryz.lays160:Go.Proofs.Lays.n160 prog Tryz.lays160_ren:={
 mixed:=by kernel_rfl
 f119:=Tryz.func325.trans (congrArg some (by kernel_rfl))
 f120:=Tryz.func375.trans (congrArg some (by kernel_rfl))
 f137:=Tryz.func286.trans (congrArg some (by kernel_rfl))
 f151:=Tryz.func323.trans (congrArg some (by kernel_rfl))
 f152:=Tryz.func264.trans (congrArg some (by kernel_rfl))
 f160:=Tryz.func166.trans (congrArg some (by kernel_rfl))
 f197:=Tryz.func322.trans (congrArg some (by kernel_rfl))
 f217:=Tryz.func339.trans (congrArg some (by kernel_rfl))
 f224:=Tryz.func326.trans (congrArg some (by kernel_rfl))
 f225:=Tryz.func327.trans (congrArg some (by kernel_rfl))
 f227:=Tryz.func259.trans (congrArg some (by kernel_rfl))
 f228:=Tryz.func266.trans (congrArg some (by kernel_rfl))
 f231:=Tryz.func257.trans (congrArg some (by kernel_rfl))
 f232:=Tryz.func258.trans (congrArg some (by kernel_rfl))
 f233:=Tryz.func260.trans (congrArg some (by kernel_rfl))
 f234:=Tryz.func261.trans (congrArg some (by kernel_rfl))
 f235:=Tryz.func262.trans (congrArg some (by kernel_rfl))
 f236:=Tryz.func263.trans (congrArg some (by kernel_rfl))
 f260:=Tryz.func374.trans (congrArg some (by kernel_rfl))
 f266:=Tryz.func383.trans (congrArg some (by kernel_rfl))
 f271:=Tryz.func324.trans (congrArg some (by kernel_rfl))
 t0:=underlying0
 a0:=isAgg0
 z0:=sizeOf0
 v0:=zeroValue0
 t3:=underlying3
 a3:=isAgg3
 z3:=sizeOf3
 v3:=zeroValue3
 t4:=underlying4
 a4:=isAgg4
 z4:=sizeOf4
 v4:=zeroValue4
 t5:=underlying5
 a5:=isAgg5
 z5:=sizeOf5
 v5:=zeroValue5
 t9:=underlying9
 a9:=isAgg9
 z9:=sizeOf9
 v9:=zeroValue9
 t21:=underlying21
 a21:=isAgg21
 z21:=sizeOf21
 v21:=zeroValue21
 t46:=underlying224
 a46:=isAgg224
 z46:=sizeOf224
 v46:=zeroValue224
 t105:=underlying47
 a105:=isAgg47
 z105:=sizeOf47
 v105:=zeroValue47
 t116:=underlying278
 a116:=isAgg278
 z116:=sizeOf278
 t117:=underlying279
 a117:=isAgg279
 z117:=sizeOf279
 v117:=zeroValue279
 t119:=underlying314
 a119:=isAgg314
 z119:=sizeOf314
 t124:=underlying282
 a124:=isAgg282
 z124:=sizeOf282
 v124:=zeroValue282
 t138:=underlying316
 a138:=isAgg316
 z138:=sizeOf316
 v138:=zeroValue316
 t139:=underlying317
 a139:=isAgg317
 z139:=sizeOf317
 v139:=zeroValue317
 g3:=by kernel_rfl
 g4:=by kernel_rfl }
open Go.RowKit in
theorem Tryz.strings_Trim_one(s:ByteArray)(c:UInt8)(hc:c.toNat<128)(w:World)(hs:s.size<=9223372036854775807):
 Calls prog 166 #[.string s,.string ⟨#[c]⟩] w fun e w'=>e=.returned (.string ⟨(Lib.trimB s.data.toList c).toArray⟩)/\(w'=w\/w'=w.drew):=Any.strings_Trim_one Tryz.lays160 s c hc w hs
def Tryz.lays103_ren:Go.Shelf.Ren:=⟨fun|103=>246|210=>316|206=>162|n=>n,fun|9=>9|4=>4|24=>128|3=>3|n=>n,fun|n=>n⟩
theorem Tryz.lays103:Go.Proofs.Lays.n103 prog Tryz.lays103_ren:={
 mixed:=by kernel_rfl
 f103:=Tryz.func246.trans (congrArg some (by kernel_rfl))
 f206:=Tryz.func162.trans (congrArg some (by kernel_rfl))
 f210:=Tryz.func316.trans (congrArg some (by kernel_rfl))
 t3:=underlying3
 a3:=isAgg3
 z3:=sizeOf3
 v3:=zeroValue3
 t4:=underlying4
 a4:=isAgg4
 z4:=sizeOf4
 v4:=zeroValue4
 t9:=underlying9
 a9:=isAgg9
 z9:=sizeOf9
 v9:=zeroValue9
 t24:=underlying128
 a24:=isAgg128
 z24:=sizeOf128
 v24:=zeroValue128 }
open Go.RowKit in
theorem Tryz.strings_CutPrefix(s p:ByteArray)(w:World):
 Calls prog 246 #[.string s,.string p] w fun e w'=>e=.returned (.tuple #[.string ⟨(Lib.trimPrefix s.data.toList p.data.toList).toArray⟩,.bool (Lib.hasPrefix s.data.toList p.data.toList)])/\w'=w:=Any.strings_CutPrefix Tryz.lays103 s p w
open Go.RowKit Go.Lib in
theorem Tryz.strings_Index_one(s:ByteArray)(c:UInt8)(w:World):
 Calls prog 370 #[.string s,.string ⟨#[c]⟩] w fun e w'=>e=.returned (.int .i64 (Lib.indexByte s.data.toList c))/\w'=w:=Any.strings_Index_one Tryz.lays143 s c w
def Tryz.lays144_ren:Go.Shelf.Ren:=⟨fun|144=>372|143=>370|219=>399|217=>339|225=>327|224=>326|267=>409|266=>383|314=>415|n=>n,fun|9=>9|4=>4|3=>3|5=>5|46=>224|146=>374|51=>72|n=>n,fun|1=>3|n=>n⟩
theorem Tryz.lays144:Go.Proofs.Lays.n144 prog Tryz.lays144_ren:={
 mixed:=by kernel_rfl
 f143:=Tryz.func370.trans (congrArg some (by kernel_rfl))
 f144:=Tryz.func372.trans (congrArg some (by kernel_rfl))
 f217:=Tryz.func339.trans (congrArg some (by kernel_rfl))
 f219:=Tryz.func399.trans (congrArg some (by kernel_rfl))
 f224:=Tryz.func326.trans (congrArg some (by kernel_rfl))
 f225:=Tryz.func327.trans (congrArg some (by kernel_rfl))
 f266:=Tryz.func383.trans (congrArg some (by kernel_rfl))
 f267:=Tryz.func409.trans (congrArg some (by kernel_rfl))
 f314:=Tryz.func415.trans (congrArg some (by kernel_rfl))
 t3:=underlying3
 a3:=isAgg3
 z3:=sizeOf3
 v3:=zeroValue3
 t4:=underlying4
 a4:=isAgg4
 z4:=sizeOf4
 v4:=zeroValue4
 t5:=underlying5
 a5:=isAgg5
 z5:=sizeOf5
 v5:=zeroValue5
 t9:=underlying9
 a9:=isAgg9
 z9:=sizeOf9
 v9:=zeroValue9
 t46:=underlying224
 a46:=isAgg224
 z46:=sizeOf224
 v46:=zeroValue224
 t51:=underlying72
 a51:=isAgg72
 z51:=sizeOf72
 v51:=zeroValue72
 t146:=underlying374
 a146:=isAgg374
 z146:=sizeOf374
 v146:=zeroValue374
 g1:=by kernel_rfl }
open Go.RowKit Go.Lib in
theorem Tryz.strings_Contains_one(s:ByteArray)(c:UInt8)(w:World):
 Calls prog 372 #[.string s,.string ⟨#[c]⟩] w fun e w'=>e=.returned (.bool (decide (0<=Lib.indexByte s.data.toList c)))/\w'=w:=Any.strings_Contains_one Tryz.lays144 s c w
def Tryz.lays148_ren:Go.Shelf.Ren:=⟨fun|148=>252|222=>320|223=>321|269=>373|n=>n,fun|9=>9|3=>3|4=>4|5=>5|146=>374|51=>72|46=>224|n=>n,fun|n=>n⟩
theorem Tryz.lays148:Go.Proofs.Lays.n148 prog Tryz.lays148_ren:={
 mixed:=by kernel_rfl
 f148:=Tryz.func252.trans (congrArg some (by kernel_rfl))
 f222:=Tryz.func320.trans (congrArg some (by kernel_rfl))
 f223:=Tryz.func321.trans (congrArg some (by kernel_rfl))
 f269:=Tryz.func373.trans (congrArg some (by kernel_rfl))
 t3:=underlying3
 a3:=isAgg3
 z3:=sizeOf3
 v3:=zeroValue3
 t4:=underlying4
 a4:=isAgg4
 z4:=sizeOf4
 v4:=zeroValue4
 t5:=underlying5
 a5:=isAgg5
 z5:=sizeOf5
 v5:=zeroValue5
 t9:=underlying9
 a9:=isAgg9
 z9:=sizeOf9
 v9:=zeroValue9
 t46:=underlying224
 a46:=isAgg224
 z46:=sizeOf224
 v46:=zeroValue224
 t51:=underlying72
 a51:=isAgg72
 z51:=sizeOf72
 v51:=zeroValue72
 t146:=underlying374
 a146:=isAgg374
 z146:=sizeOf374
 v146:=zeroValue374 }
open Go.RowKit Go.Lib in
theorem Tryz.strings_LastIndex_one(s sub:ByteArray)(h1:sub.size=1)(hs:s.size<4611686018427387904)(w:World):
 Calls prog 252 #[.string s,.string sub] w fun e w'=>e=.returned (.int .i64 (Lib.lastIndexByte s ((sub[0]'(by omega)).toNat:Int)))/\w'=w:=Any.strings_LastIndex_one Tryz.lays148 s sub h1 hs w
def Tryz.lays99_ren:Go.Shelf.Ren:=⟨fun|99=>82|206=>162|n=>n,fun|9=>9|4=>4|3=>3|n=>n,fun|n=>n⟩
theorem Tryz.lays99:Go.Proofs.Lays.n99 prog Tryz.lays99_ren:={
 mixed:=by kernel_rfl
 f99:=Tryz.func82.trans (congrArg some (by kernel_rfl))
 f206:=Tryz.func162.trans (congrArg some (by kernel_rfl))
 t3:=underlying3
 a3:=isAgg3
 z3:=sizeOf3
 v3:=zeroValue3
 t4:=underlying4
 a4:=isAgg4
 z4:=sizeOf4
 v4:=zeroValue4
 t9:=underlying9
 a9:=isAgg9
 z9:=sizeOf9
 v9:=zeroValue9 }
open Go.RowKit Go.Lib in
theorem Tryz.strings_HasPrefix(s p:ByteArray)(w:World):
 Calls prog 82 #[.string s,.string p] w fun e w'=>e=.returned (.bool (Lib.hasPrefix s.data.toList p.data.toList))/\w'=w:=Any.strings_HasPrefix Tryz.lays99 s p w
def Tryz.lays146_ren:Go.Shelf.Ren:=⟨fun|146=>368|221=>398|268=>407|138=>408|143=>370|195=>413|197=>322|218=>414|219=>399|260=>374|217=>339|225=>327|224=>326|267=>409|266=>383|314=>415|n=>n,fun|9=>9|31=>49|3=>3|4=>4|0=>0|105=>47|21=>21|5=>5|46=>224|119=>314|139=>317|138=>316|146=>374|51=>72|n=>n,fun|1=>3|3=>1|4=>2|n=>n⟩
theorem Tryz.lays146:Go.Proofs.Lays.n146 prog Tryz.lays146_ren:={
 mixed:=by kernel_rfl
 f138:=Tryz.func408.trans (congrArg some (by kernel_rfl))
 f143:=Tryz.func370.trans (congrArg some (by kernel_rfl))
 f146:=Tryz.func368.trans (congrArg some (by kernel_rfl))
 f195:=Tryz.func413.trans (congrArg some (by kernel_rfl))
 f197:=Tryz.func322.trans (congrArg some (by kernel_rfl))
 f217:=Tryz.func339.trans (congrArg some (by kernel_rfl))
 f218:=Tryz.func414.trans (congrArg some (by kernel_rfl))
 f219:=Tryz.func399.trans (congrArg some (by kernel_rfl))
 f221:=Tryz.func398.trans (congrArg some (by kernel_rfl))
 f224:=Tryz.func326.trans (congrArg some (by kernel_rfl))
 f225:=Tryz.func327.trans (congrArg some (by kernel_rfl))
 f260:=Tryz.func374.trans (congrArg some (by kernel_rfl))
 f266:=Tryz.func383.trans (congrArg some (by kernel_rfl))
 f267:=Tryz.func409.trans (congrArg some (by kernel_rfl))
 f268:=Tryz.func407.trans (congrArg some (by kernel_rfl))
 f314:=Tryz.func415.trans (congrArg some (by kernel_rfl))
 t0:=underlying0
 a0:=isAgg0
 z0:=sizeOf0
 v0:=zeroValue0
 t3:=underlying3
 a3:=isAgg3
 z3:=sizeOf3
 v3:=zeroValue3
 t4:=underlying4
 a4:=isAgg4
 z4:=sizeOf4
 v4:=zeroValue4
 t5:=underlying5
 a5:=isAgg5
 z5:=sizeOf5
 v5:=zeroValue5
 t9:=underlying9
 a9:=isAgg9
 z9:=sizeOf9
 v9:=zeroValue9
 t21:=underlying21
 a21:=isAgg21
 z21:=sizeOf21
 v21:=zeroValue21
 t31:=underlying49
 a31:=isAgg49
 z31:=sizeOf49
 v31:=zeroValue49
 t46:=underlying224
 a46:=isAgg224
 z46:=sizeOf224
 v46:=zeroValue224
 t51:=underlying72
 a51:=isAgg72
 z51:=sizeOf72
 v51:=zeroValue72
 t105:=underlying47
 a105:=isAgg47
 z105:=sizeOf47
 v105:=zeroValue47
 t119:=underlying314
 a119:=isAgg314
 z119:=sizeOf314
 t138:=underlying316
 a138:=isAgg316
 z138:=sizeOf316
 v138:=zeroValue316
 t139:=underlying317
 a139:=isAgg317
 z139:=sizeOf317
 v139:=zeroValue317
 t146:=underlying374
 a146:=isAgg374
 z146:=sizeOf374
 v146:=zeroValue374
 g1:=by kernel_rfl
 g3:=by kernel_rfl
 g4:=by kernel_rfl }
open Go.RowKit Go.Lib in
theorem Tryz.strings_Split(s sep:ByteArray)(m:Int)(w:World)(hs:s.size<4294967281)(hm:w.cell? ⟨3,0,none⟩=some (.int .i64 m))(h1:1<=sep.size):
 Calls prog 368 #[.string s,.string sep] w fun e w'=>
  e=.returned (.slice (some ⟨w.heap.size,0,none⟩) (Lib.countB s sep+1) (Lib.countB s sep+1))/\w'=w.alloc (.cells ((Lib.splitB sep 0 (Lib.countB s sep) s).map Value.string).toArray 9):=Any.strings_Split Tryz.lays146 (by kernel_rfl) s sep m w hs hm h1
def Tryz.lays147_ren:Go.Shelf.Ren:=⟨fun|147=>369|221=>398|268=>407|138=>408|143=>370|195=>413|197=>322|218=>414|219=>399|260=>374|217=>339|225=>327|224=>326|267=>409|266=>383|314=>415|n=>n,fun|9=>9|3=>3|31=>49|4=>4|0=>0|105=>47|21=>21|5=>5|46=>224|119=>314|139=>317|138=>316|146=>374|51=>72|n=>n,fun|1=>3|3=>1|4=>2|n=>n⟩
theorem Tryz.lays147:Go.Proofs.Lays.n147 prog Tryz.lays147_ren:={
 mixed:=by kernel_rfl
 f138:=Tryz.func408.trans (congrArg some (by kernel_rfl))
 f143:=Tryz.func370.trans (congrArg some (by kernel_rfl))
 f147:=Tryz.func369.trans (congrArg some (by kernel_rfl))
 f195:=Tryz.func413.trans (congrArg some (by kernel_rfl))
 f197:=Tryz.func322.trans (congrArg some (by kernel_rfl))
 f217:=Tryz.func339.trans (congrArg some (by kernel_rfl))
 f218:=Tryz.func414.trans (congrArg some (by kernel_rfl))
 f219:=Tryz.func399.trans (congrArg some (by kernel_rfl))
 f221:=Tryz.func398.trans (congrArg some (by kernel_rfl))
 f224:=Tryz.func326.trans (congrArg some (by kernel_rfl))
 f225:=Tryz.func327.trans (congrArg some (by kernel_rfl))
 f260:=Tryz.func374.trans (congrArg some (by kernel_rfl))
 f266:=Tryz.func383.trans (congrArg some (by kernel_rfl))
 f267:=Tryz.func409.trans (congrArg some (by kernel_rfl))
 f268:=Tryz.func407.trans (congrArg some (by kernel_rfl))
 f314:=Tryz.func415.trans (congrArg some (by kernel_rfl))
 t0:=underlying0
 a0:=isAgg0
 z0:=sizeOf0
 v0:=zeroValue0
 t3:=underlying3
 a3:=isAgg3
 z3:=sizeOf3
 v3:=zeroValue3
 t4:=underlying4
 a4:=isAgg4
 z4:=sizeOf4
 v4:=zeroValue4
 t5:=underlying5
 a5:=isAgg5
 z5:=sizeOf5
 v5:=zeroValue5
 t9:=underlying9
 a9:=isAgg9
 z9:=sizeOf9
 v9:=zeroValue9
 t21:=underlying21
 a21:=isAgg21
 z21:=sizeOf21
 v21:=zeroValue21
 t31:=underlying49
 a31:=isAgg49
 z31:=sizeOf49
 v31:=zeroValue49
 t46:=underlying224
 a46:=isAgg224
 z46:=sizeOf224
 v46:=zeroValue224
 t51:=underlying72
 a51:=isAgg72
 z51:=sizeOf72
 v51:=zeroValue72
 t105:=underlying47
 a105:=isAgg47
 z105:=sizeOf47
 v105:=zeroValue47
 t119:=underlying314
 a119:=isAgg314
 z119:=sizeOf314
 t138:=underlying316
 a138:=isAgg316
 z138:=sizeOf316
 v138:=zeroValue316
 t139:=underlying317
 a139:=isAgg317
 z139:=sizeOf317
 v139:=zeroValue317
 t146:=underlying374
 a146:=isAgg374
 z146:=sizeOf374
 v146:=zeroValue374
 g1:=by kernel_rfl
 g3:=by kernel_rfl
 g4:=by kernel_rfl }
open Go.RowKit Go.Lib in
theorem Tryz.strings_SplitN(s sep:ByteArray)(n:Nat)(m:Int)(w:World)(hs:s.size<4294967281)(hm:w.cell? ⟨3,0,none⟩=some (.int .i64 m))(h1:1<=sep.size)(hn:1<=n)(hn63:n<=9223372036854775807):
 Calls prog 369 #[.string s,.string sep,.int .i64 n] w fun e w'=>
  e=.returned (.slice (some ⟨w.heap.size,0,none⟩) (Lib.splitB sep 0 (min n (s.size+1)-1) s).length (min n (s.size+1)))/\w'=w.alloc (.cells (Lib.cellsOf (Lib.splitB sep 0 (min n (s.size+1)-1) s) (min n (s.size+1))) 9):=Any.strings_SplitN Tryz.lays147 (by kernel_rfl) s sep n m w hs hm h1 hn hn63
end Go.Proofs
namespace Go.Proofs.YtndlekaahjccdaaGreatDoor
open Go.RowKit Go.Proofs.Tryz
structure RS where
 s:ByteArray
 n:Nat
 b:Nat
 e:Int
 a:Int
def failR(x:RS)(e a:Int):RS:=if x.e=0/\e≠0 then { x with e:=e,a:=a } else x
def shortR(x:RS):RS:=failR x 1 ((x.b:Int)+x.s.size)
def takeR(x:RS)(k:Int):RS×ByteArray:=
 if x.e≠0 then(x,⟨#[]⟩)else if k<0\/(x.s.size:Int)-x.n<k then(shortR x,⟨#[]⟩)else({ x with n:=x.n+k.toNat },x.s.extract x.n (x.n+k.toNat))
def leftR(x:RS):Int:=if x.e≠0 then 0 else(x.s.size:Int)-x.n
def leN:List UInt8->Nat
 | []=>0
 | a::l=>a.toNat+256*leN l
def le4(n:Nat):List UInt8:=[UInt8.ofNat n,UInt8.ofNat (n/256),UInt8.ofNat (n/65536),UInt8.ofNat (n/16777216)]
def numR(x:RS):RS×Nat:=((takeR x 4).1,leN (bl (takeR x 4).2))
structure Nt where
 name:ByteArray
 text:ByteArray
 set:Int
structure Bk where
 vt:ByteArray
 vs:Int
 ns:List Nt
def Rest(x:RS)(q:List UInt8):Prop:=x.e=0/\x.n<=x.s.size/\(bl x.s).drop x.n=q
def adv(x:RS)(k:Nat):RS:={ x with n:=x.n+k }
def InC(w:World)(r:Nat)(s:ByteArray)(n b e a:Int):Prop:=w.heap[r]?=some (.cells #[.string s,.int .i64 n,.int .i64 b,.int .i64 e,.int .i64 a] 216 (0,0))
theorem InC.blk{w w':World}{r:Nat}{s:ByteArray}{n b e a:Int}(h:InC w r s n b e a)(he:w'.heap[r]?=w.heap[r]?):InC w' r s n b e a:=he.trans h
theorem InC.bel{w w':World}{r:Nat}{s:ByteArray}{n b e a:Int}(h:InC w r s n b e a)(hb:Below w.heap.size w w'):InC w' r s n b e a:=h.blk (hb.block r (Array.getElem?_eq_some_iff.1 h).1)
def InX(w:World)(r:Nat)(x:RS):Prop:=InC w r x.s x.n x.b x.e x.a
theorem zL{w:World}{b:Nat}{cs:Array Value}{t:TypeId}(h:w.heap[b]?=some (.cells cs t (0,0)))(i:Nat)(v:Value)(hi:cs[i]?=some v):Live w b i v:=by
 unfold Live World.cell? World.frozen?;rw[h];exact⟨hi,by simp⟩
structure PS (w:World) (r H:Nat) (kd fb bu:Int) (g:Bool) (vt:ByteArray) (vs:Int) (v:Value) (wr:World):Prop where
 gg:w.grownBy wr (some r)
 sc:wr.heap[H]?=some (.cells #[.pointer (some ⟨r,0,none⟩),.int .i64 kd,.int .i64 fb,.bool g,.int .i64 bu] 219 (0,0))
 bb:wr.heap[H+1]?=some (.cells #[.string vt,.int .i64 vs,v] 81 (0,0))
 rb:wr.heap[w.heap.size+1]?=some (.cells #[.string ⟨#[]⟩,.int .i64 0,.slice none 0 0] 81 (0,0))
 hH:w.heap.size+2<=H
 hr:r<w.heap.size
section
variable {w wr:World} {r H:Nat} {kd fb bu:Int} {g:Bool} {vt:ByteArray} {vs:Int} {v:Value}
end
theorem infoStr:(Tryz.prog.info? 9).map (fun i=>(i.zero,i.size,i.bytes))=some (some (.string ⟨#[]⟩),1,16):=by kernel_rfl
theorem y1H(xs:List (List UInt8)):Lib.join xs []=xs.flatten:=by
 cases xs with
 | nil=>rfl
 | cons x r=>rw[Lib.join_cons,Lib.joinTail,List.flatten_cons];simp
section
variable {P:Program} {ops:Array Oper} {o:Oper} {a:Act} {K:Act->World->Prop} {Q:Exit->Act->World->Prop} {E:Prop}
end
section
variable {P:Program} {ops:Array Oper} {rest:List Oper} {o:Oper} {a:Act} {Q:Exit->Act->World->Prop}
end
end Go.Proofs.YtndlekaahjccdaaGreatDoor
set_option maxHeartbeats 4000000
set_option maxHeartbeats 8000000
namespace Go.Proofs.YtndlekaahjccdaaGreatDoor
open Go.RowKit Go.Proofs.Tryz
structure St (W0:World) (lo r:Nat) (b:ByteArray) (acc:List UInt8) (v:Value) (k:Nat) (w:World):Prop where
 own:Own w W0.heap.size v acc
 inn:InC w r b (k:Nat) 0 0 0
 kp:∀j,j<lo->w.heap[j]?=W0.heap[j]?
 bel:Below lo W0 w
 lr:lo<=r
 rw:r<W0.heap.size
theorem St.step{W0 w w':World}{lo r k:Nat}{b:ByteArray}{acc:List UInt8}{v:Value}(h:St W0 lo r b acc v k w)(hb:Below w.heap.size w w'):St W0 lo r b acc v k w':=
 ⟨h.own.bel hb,h.inn.bel hb,fun j hj=>(hb.block j (by have:=h.bel.size;have:=h.lr;have:=h.rw;omega)).trans (h.kp j hj),h.bel.trans (hb.mono (by have:=h.bel.size;have:=h.lr;have:=h.rw;omega)),h.lr,h.rw⟩
theorem St.take{W0 w w':World}{lo r k k':Nat}{b:ByteArray}{acc:List UInt8}{v:Value}(h:St W0 lo r b acc v k w)(hI:InC w' r b (k':Nat) 0 0 0)(hg:w.grownBy w' (some r)):St W0 lo r b acc v k' w':=by
 have h1:=h.bel.size;have h2:=h.lr;have h3:=h.rw;refine⟨za h.own fun q hq=>?_,hI,fun j hj=>(hg.block j (by omega) (fun e=>by have:=zF e;omega)).trans (h.kp j hj),h.bel.grown hg (by omega) (by intro q hq;cases hq;exact h2),h2,h3⟩;obtain⟨y1,y2⟩:=h.own.blk q hq;exact hg.block q y2 (fun e=>by have:=zF e;omega)
theorem St.push{W0 w w':World}{lo r k:Nat}{b:ByteArray}{acc acc':List UInt8}{v v':Value}(h:St W0 lo r b acc v k w)(ho:Own w' W0.heap.size v' acc')(hb:Below W0.heap.size w w'):St W0 lo r b acc' v' k w':=by
 have h2:=h.lr;have h3:=h.rw;exact⟨ho,h.inn.blk (hb.block r h3),fun j hj=>(hb.block j (by omega)).trans (h.kp j hj),h.bel.trans (hb.mono (by omega)),h2,h3⟩
def unitB(big:Bool)(u:Int):List UInt8:=if big then [UInt8.ofNat (u.toNat/256),UInt8.ofNat (u.toNat%256)]else [UInt8.ofNat (u.toNat%256),UInt8.ofNat (u.toNat/256)]
theorem y31(big:Bool)(u:Int):(unitB big u).length=2:=by unfold unitB;split<;>rfl
def y6A(p:Int):List Int:=if p<65536 then [p]else [55296+(p-65536)/1024,56320+(p-65536)%1024]
def bytesP(big:Bool)(p:Int):List UInt8:=(y6A p).flatMap (unitB big)
end Go.Proofs.YtndlekaahjccdaaGreatDoor
set_option maxHeartbeats 2000000
namespace Go.Proofs.YtndlekaahjccdaaGreatDoor
open Go.RowKit Go.Proofs.Tryz
theorem yD9(w:World)(l:List UInt8)(hl:l.length<=1000):(convert 94 9 (.slice (some ⟨w.heap.size,0,none⟩) l.length l.length)).run prog (w.alloc (.cells (bcells l).toArray 5))=.ok (.string ⟨l.toArray⟩) (w.alloc (.cells (bcells l).toArray 5)):=by
 have hO:Own (w.alloc (.cells (bcells l).toArray 5)) w.heap.size (.slice (some ⟨w.heap.size,0,none⟩) l.length l.length) l:=
  ⟨by simp[bcells],.inr ⟨w.heap.size,l.length,_,rfl,zA,heap_alloc_new _ _,zA,by unfold maxLen;omega,by simp[bcells],by rw[Nat.mul_one,List.toList_toArray,List.take_of_length_le (by simp[bcells])]⟩⟩
 exact y16 hO
theorem yBu(w:World)(x y:UInt8):(convert 94 9 (.slice (some ⟨w.heap.size,0,none⟩) 2 2)).run prog (w.alloc (.cells #[.int .u8 (x.toNat:Int),.int .u8 (y.toNat:Int)] 5))=.ok (.string ⟨#[x,y]⟩) (w.alloc (.cells #[.int .u8 (x.toNat:Int),.int .u8 (y.toNat:Int)] 5)):=yD9 w [x,y] (by simp)
theorem u8_of(z:Int)(h0:0<=z)(h1:z<256):∃x:UInt8,z=(x.toNat:Int):=⟨UInt8.ofNat z.toNat,by rw[UInt8.toNat_ofNat'];omega⟩
theorem yGp(u:Int)(big:Bool)(w:World)(h0:0<=u)(h1:u<65536):Calls prog 21 #[.int .i32 u,.bool big] w fun e w'=>e=.returned (.string ⟨(unitB big u).toArray⟩)/\Below w.heap.size w w':=by
 obtain⟨x,hx⟩:=u8_of (u/256) (by omega) (by omega);obtain⟨y,hy⟩:=u8_of (u%256) (by omega) (by omega);have eh:UInt8.ofNat (u.toNat/256)=x:=UInt8.toNat_inj.1 (by rw[UInt8.toNat_ofNat'];omega);have el:UInt8.ofNat (u.toNat%256)=y:=UInt8.toNat_inj.1 (by rw[UInt8.toNat_ofNat'];omega);have w0:IntKind.u8.wrap (u/256)=(x.toNat:Int):=by rw[IntKind.wrap_u8];omega
 have w1:IntKind.u8.wrap (u%256)=(y.toNat:Int):=by rw[IntKind.wrap_u8];omega
 cases big with
 | true=>
  have e:unitB true u = [x,y]:=by unfold unitB;rw[if_pos rfl,eh,el]
  rw[e];have hc:=fun w=>yBu w x y
  clear e hx hy eh el
  go_enter func21,ntmps21
  go_wp2
  go_ret
  exact⟨rfl,bal (z8) _⟩
 | false=>
  have e:unitB false u = [y,x]:=by unfold unitB;rw[if_neg (by decide),eh,el]
  rw[e];have hc:=fun w=>yBu w y x
  clear e hx hy eh el
  go_enter func21,ntmps21
  go_wp2
  go_ret
  exact⟨rfl,bal (z8) _⟩
end Go.Proofs.YtndlekaahjccdaaGreatDoor
set_option maxHeartbeats 4000000
namespace Go.Proofs.YtndlekaahjccdaaGreatDoor
open Go.RowKit Go.Proofs.Tryz
theorem y8w(big:Bool)(v:Value)(ps:List Int)(w:World)(H8:Row w v ps.length (icells ps))(hs:∀p∈ps,Scal p)(hl:ps.length<=1000000):
 Calls prog 10 #[v,.bool big] w fun e w'=>e=.returned (.string ⟨(ps.flatMap (bytesP big)).toArray⟩)/\Below w.heap.size w w':=by
 have K1:=z7 (fun u w a b=>yGp u big w a b);obtain⟨n,hn⟩:∃n,n=ps.length:=⟨_,rfl⟩;rw[<-hn]at H8 hl;obtain⟨a,cap,rfl,hc⟩:=H8;obtain⟨R,hR⟩:∃R:ByteArray,R=⟨(ps.flatMap (bytesP big)).toArray⟩:=⟨_,rfl⟩;rw[<-hR];have Hi:(n:Int)<=1000000:=by omega
 have HN:=z7 hn;have HC:=z7 hc;have HS:=z7 hs;have HR:=z7 hR;clear hn hc hs hR;clear hl
 go_enter func10,ntmps10
 go_wp2
 go_loopw [5,6] (fun tv iv wr=>∃(i:Nat) (T:ByteArray),iv=.int .i64 (i:Int)/\tv=.string T/\(i:Int)<=n/\(T.size:Int)<=4*i/\Hid (bl T=(ps.take i).flatMap (bytesP big))/\Below w.heap.size w wr) (fun _ iv _=>n-(intOf iv).toNat)
 case atStart=>exact⟨0,⟨#[]⟩,rfl,rfl,by omega,by decide,z7 (by simp),z8⟩
 case round=>
  obtain⟨i,T,rfl,rfl,hi,hT,hE,H5⟩:=hrel;by_cases He:(i:Int)<n
  . obtain⟨p,hp⟩:=zM ps i (by rw[<-HN.out];omega)
    obtain⟨g,o,rfl,H6⟩:=HC.out i (.int .i32 p) (by simp[icells,hp]);have H6:=kc H5 H6;have Hd:=HS.out p (List.mem_of_getElem? hp);obtain⟨p0,p1,_⟩:=Hd;have he:(ps.take (i+1)).flatMap (bytesP big)=bl T++bytesP big p:=by
     rw[List.take_add_one,hp,List.flatMap_append,hE.out];simp
    by_cases H7:p<65536
    . have H9:bytesP big p=unitB big p:=by unfold bytesP y6A;rw[if_pos H7];simp
      rw[H9]at he;have k1:=fun w=>K1.out p w p0 H7
      obtain⟨V,hV⟩:∃V:ByteArray,V=⟨(unitB big p).toArray⟩:=⟨_,rfl⟩;have Hh:V.size=2:=by rw[hV];exact y31 big p
      rw[<-hV]at k1;have e1:bl (T++V)=(ps.take (i+1)).flatMap (bytesP big):=by rw[he,hV];simp[bl]
      have Ha:((T++V).size:Int)<=4*((i:Int)+1):=by
       have e0:bl (T++V)=bl T++bl V:=by simp[bl]
       rw[<-zJ,e0,zH,zJ,zJ];omega
      have K1':=z7 k1;have E1:=z7 e1;have HV:=z7 hV;have Hc:=z7 Ha;clear k1 e1 hV Ha;clear hp hE he H9
      go_wp2_with (go_at_call 21;refine(K1'.out _).mono ?_;rintro e w1 ⟨rfl,Hb⟩)
      go_roundw
      case rel=>exact⟨i+1,T++V,by go_num,rfl,by omega,Hc.out,E1,bt H5 Hb⟩
      case measure=>simp[intOf];omega
    . have H9:bytesP big p=unitB big (55296+(p-65536)/1024)++unitB big (56320+(p-65536)%1024):=by unfold bytesP y6A;rw[if_neg H7];simp
      rw[H9]at he;have k1:=fun w=>K1.out (55296+(p-65536)/1024) w (by omega) (by omega)
      have k2:=fun w=>K1.out (56320+(p-65536)%1024) w (by omega) (by omega)
      obtain⟨U,hU⟩:∃U:ByteArray,U=⟨(unitB big (55296+(p-65536)/1024)).toArray⟩:=⟨_,rfl⟩;obtain⟨V,hV⟩:∃V:ByteArray,V=⟨(unitB big (56320+(p-65536)%1024)).toArray⟩:=⟨_,rfl⟩;have Hj:U.size=2:=by rw[hU];exact y31 big _
      have Hh:V.size=2:=by rw[hV];exact y31 big _
      rw[<-hU]at k1;rw[<-hV]at k2;have e1:bl (T++U++V)=(ps.take (i+1)).flatMap (bytesP big):=by rw[he,hU,hV];simp[bl]
      have Ha:((T++U++V).size:Int)<=4*((i:Int)+1):=by
       have e0:bl (T++U++V)=bl T++(bl U++bl V):=by simp[bl]
       rw[<-zJ,e0,zH,zH,zJ,zJ,zJ];omega
      have Hk:((T++U).size:Int)<=4*(i:Int)+2:=by
       have e0:bl (T++U)=bl T++bl U:=by simp[bl]
       rw[<-zJ,e0,zH,zJ,zJ];omega
      have K1':=z7 k1;have K2':=z7 k2;have E1:=z7 e1;have HV:=z7 hV;have HU:=z7 hU;have Hc:=z7 Ha;clear k1 k2 e1 hV hU Ha;clear hp hE he H9
      go_wp2_with (first
       | (go_at_call 21;with_reducible refine(K1'.out _).mono ?_;rintro e w1 ⟨rfl,Hb⟩)
       | (go_at_call 21;with_reducible refine(K2'.out _).mono ?_;rintro e w2 ⟨rfl,Hg⟩))
      go_roundw
      case rel=>exact⟨i+1,T++U++V,by go_num,rfl,by omega,Hc.out,E1,bt (bt H5 Hb) Hg⟩
      case measure=>simp[intOf];omega
  . have Hf:i=n:=by omega
    have e1:T=R:=by
     have h:=hE.out;rw[List.take_of_length_le (by rw[<-HN.out];omega)]at h;rw[HR.out,<-h]
    clear hE He;subst Hf;subst e1;go_wp2;go_ret
    exact⟨rfl,H5⟩
