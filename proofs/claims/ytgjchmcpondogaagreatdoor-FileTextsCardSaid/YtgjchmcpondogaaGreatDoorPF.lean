/- PF -/
import Derived.Test.YtgjchmcpondogaaGreatDoorPE
import Derived.Deep.Slices
import Derived.Test.YtgjchmcpondogaaGreatDoorP0
import Derived.Deep.DrawnRows
import Derived.Shelf.Strings.OnBuilder
import Derived.Shelf.Strings.Builder1
import Derived.Shelf.Strings.Builder2
import Derived.Shelf.Strings.Trim
import Derived.Shelf.Small.Utf8
import Derived.Shelf.Small.Bits
import Derived.Shelf.Small.Strs
import Derived.Shelf.Small.Wraps
import Derived.Shelf.Strings.BuilderF
import Derived.Shelf.Strings.BuilderK
import Derived.Shelf.Utf8.AppendRunePlain
import Derived.Shelf.Utf8.RuneCount
import Derived.Shelf.Strings.Builder2Cap
import Derived.Shelf.Strconv.Itoa0
import Derived.Shelf.Strings.Search1
import Derived.Shelf.Strings.Search2
import Derived.Shelf.Strings.Search3
import Derived.Shelf.Strings.Count
import Derived.Shelf.LaysM
import Derived.Shelf.Strings.Shaped
import Derived.Shelf.Strings.LastIndex
import Derived.Shelf.Strings.Prefix
import Derived.Shelf.Strings.Split
import Derived.Shelf.Strings.SplitShaped
import Derived.Shelf.Unicode.Decode
import Derived.Shelf.Strings.Runes
import Derived.Shelf.Strings.RuneCount
import Derived.Shelf.Strings.IndexAny
import Derived.Shelf.Strings.AsciiSet
import Derived.Shelf.Strings.IndexAnyAll
import Derived.Shelf.Strings.Explode
import Derived.Shelf.Bits.Mul64
import Derived.Shelf.Strings.Repeat
import Derived.Shelf.Unicode.DecodeSlow
import Derived.Shelf.Unicode.DecodeAny
import Derived.Shelf.Unicode.DecodeLast
import Derived.Shelf.Strings.BuilderCap
import Derived.Ground.Names2Prog
import Derived.Shelf.Slices.SearchI
import Derived.Test.YtgjchmcpondogaaGreatDoorProg
import Derived.Test.YtgjchmcpondogaaGreatDoorP2
set_option linter.all false
set_option maxRecDepth 100000
set_option maxHeartbeats 40000000
set_option maxHeartbeats 8000000
namespace Go.Proofs.YtgjchmcpondogaaGreatDoor
open Go.RowKit Go.Proofs.Tryz
noncomputable def y3j(c:Int):Bool→List Int→Int→Int
 | _,[],n=>n
 | s,p::l,n=>y3j c (letterB p) l (n+weightM c p-(if s&&capitalB p then 3 else 0))
noncomputable def y7x(c:Int)(t:List UInt8):Int:=y3j c false (pts t) 0
noncomputable def y0I(c:Int)(l:List UInt8):Option Int:=if 0≤c∧c≤6 then(match decT (tokC c) l with|(t,none)=>some (y7x c t)|(_,some _)=>none)else none
def scoreV:Option Int→Value
 | some n=>.tuple #[.int .i64 n,.bool true]
 | none=>.tuple #[.int .i64 0,.bool false]
def ScPost(r:Option Int)(w:World)(e:Ending)(w':World):Prop:=e=.returned (scoreV r)∧Below w.heap.size w w'
noncomputable def y5l(c:Int):Value→Value
 | .int .i32 p=>.int .i64 (weightM c p)
 | v=>v
theorem y9G(c:Int)(s:Bool)(p:Int)(l:List Int)(n:Int):y3j c s (p::l) n=y3j c (letterB p) l (n+weightM c p-(if s&&capitalB p then 3 else 0)):=rfl
theorem y95(w:World):(zeroValue 3).run prog w=.ok (.int .i64 0) w:=by simp[zeroValue,underlying3,go_sem];rfl
theorem yBp(c:Int)(b tb:ByteArray)(w:World)(hT:TW w)(hb:b.size≤1048576)(h0:0≤c)(h1:c≤6)(hd:decT (tokC c) (bl b)=(bl tb,none)):
 Calls prog 237 #[.int .i64 c,.string b] w (ScPost (some (y7x c (bl tb))) w):=by
 have k1:=fun w=>y3R c w
 rw[show decide (0≤c∧c≤6)=true by simp[h0,h1]]at k1;have k2:=fun w hT=>y0w c b w hT (by omega)
 rw[y1c c _ (by omega),hd]at k2;simp only[faultV]at k2;rw[show(⟨(bl tb).toArray⟩:ByteArray)=tb from y1x tb]at k2;have k3:∀w,Calls prog 13 #[.agg #[.int .i64 0,.int .i64 0]] w fun e w'=>e=.returned (.bool false)∧Below w.heap.size w w':=fun w=>y0x 0 0 w
 have k4:=fun p w HQ Hz=>yBZ c p w h0 h1 HQ Hz
 have kA:tb.size≤1073741824:=by
  have:=yCY (yIO c) (bl b);rw[hd,zJ,zJ]at this;omega
 obtain⟨R,hR⟩:∃R,R=y7x c (bl tb):=⟨_,rfl⟩;rw[←hR];have K1:=z7 k1;have K2:=z7 k2;have K3:=z7 k3;have K4:=z7 k4;have HR:=z7 hR;have HT:=z7 hT;clear k1 k2 k3 k4 hR hT;clear hd;have Hm:Hid ((bl tb).length=tb.size):=zJ tb
 go_enter func237,ntmps237
 go_wp2_with (first
  | (go_at_call 54;refine(K1.out _).mono ?_;rintro e w0 ⟨rfl,Hk⟩)
  | (go_at_call 127;refine(K2.out _ (HT.out.bel Hk)).mono ?_;rintro e w1 ⟨rfl,Hu⟩)
  | (go_at_call 13;refine(K3.out _).mono ?_;rintro e w2 ⟨rfl,Ht⟩)
  | (refine y1Q rfl _ rfl _ ?_))
 have Hs:=bt (bal (bt Hk Hu) _) Ht;have Hw:=MemoG.made 21 (y5l c) w2;have Hj:Below (w2.alloc (.map #[] 0)).heap.size (w2.alloc (.map #[] 0)) ((w2.alloc (.map #[] 0)).iter tb 0):=(z8).alloc (zA) _;have Hy:=ItS.made (w2.alloc (.map #[] 0)) tb;have kx:=Hw.bel Hj;have ky:Below w2.heap.size w2 ((w2.alloc (.map #[] 0)).iter tb 0):=bt (bal (z8) _) Hj;have Hp:(w2.alloc (.map #[] 0)).heap.size=w2.heap.size+1:=World.size_alloc _ _;generalize (w2.alloc (.map #[] 0)).iter tb 0=W0 at *;rw[Hp]at Hy;clear Hj Hw Hp Hk Hu Ht
 go_loopw [9,10] (fun nv sv wr=>∃(k:Nat) (s:Bool) (n:Int),nv=.int .i64 n∧sv=.bool s∧ItS wr (w2.heap.size+1) tb k∧k≤tb.size∧Hid (y3j c s (pts ((bl tb).drop k)) n=R) ∧ -11*(k:Int)≤n∧n≤6*(k:Int)∧MemoG 21 (y5l c) wr w2.heap.size∧Below w2.heap.size w2 wr) (fun _ _ wr=>tb.size-wr.iterPos (w2.heap.size+1))
 case atStart=>exact⟨0,false,0,rfl,rfl,Hy,zD,by have:=HR.out;unfold y7x at this;rw[List.drop_zero];exact z7 this.symm,by omega,by omega,kx,ky⟩
 case round=>
  obtain⟨k,s,n,rfl,rfl,hI,hk,Hh,kD,kC,hM,H5⟩:=hrel;have Hb:=hI.pos;have Ha:=z7 Hb;clear Hb;by_cases Hg:k<tb.size
  · rcases hd:dec ((bl tb).drop k)with⟨p,j⟩
    have Hr:=y0Q ((bl tb).drop k);have Hq:=y4V ((bl tb).drop k);have H9:(bl tb).drop k ≠ []:=y2n (by rw[Hm.out];exact Hg);have Hi:=y3v _ H9;rw[List.length_drop,Hm.out]at Hi;have hp:=yAg _ H9;rw[List.drop_drop]at hp;rw[hd]at Hr Hq Hi hp;simp only at Hr Hq Hi hp;have e1:=Hh.out;rw[hp,y9G]at e1;have kz:=yD0 c p;have Hd:=keyR p (by omega) (by omega);have hF:Hid (y5l c (.int .i32 p)=.int .i64 (weightM c p)):=rfl;have k4:=fun w=>K4.out p w (by omega) (by omega)
    have k5:=fun w=>y6H p w
    have k6:=fun w=>y5Z p w
    generalize weightM c p=W at *;generalize letterB p=L at *;generalize capitalB p=C at *;have Ho:IntKind.i64.wrap (n+W)=n+W:=wi64 _ (by omega) (by omega);have Hn:IntKind.i64.wrap (n+W-3)=n+W-3:=wi64 _ (by omega) (by omega);have Hv:∀w':World,(∀j,j≠w2.heap.size+1→w'.heap[j]?=wr.heap[j]?)→MemoG 21 (y5l c) w' w2.heap.size:=fun w' h=>hM.blk (h _ (by omega))
    have K4':=z7 k4;have K5:=z7 k5;have K6:=z7 k6;have kH:=z7 Ho;have kF:=z7 Hn;have Hl:=z7 Hv;have H6:=z7 Hd;clear k4 k5 k6 Ho Hn Hv Hd;clear hp H9 Hh;cases s
    · have e1:y3j c L (pts ((bl tb).drop (k+j))) (n+W)=R:=by simpa using e1
      have E1:=z7 e1;have Hf:=z7 hd;clear e1 hd
      go_wp2_with (first
       | (at_next;refine zt rfl _ rfl wr (w2.heap.size+1) tb k rfl hI Hg p j Hf ?_;intro w3 IW Hc He;have MW:=Hl.out w3 Hc;have BW:=H5.grown He H5.size (by intro q hq;cases hq;omega))
       | (at_lookup;refine y1r w3 rfl 369 _ _ rfl 21 3 y37 underlying369 (.int .i64 0) (y95 w3) (y5l c) w2.heap.size rfl MW (.int .i32 p) _ rfl H6.out (.int .i64 W) hF ?_ ?_)
       | (go_at_call 323;refine(K4'.out _).mono ?_;rintro e w4 ⟨rfl,H7⟩;have IW:=IW.bel H7;have MW:=MW.bel H7;have BW:=bt BW H7)
       | (at_mapUpdate;(refine y1P w4 rfl 369 _ _ _ rfl 21 3 y37 underlying369 (y5l c) w2.heap.size rfl MW (.int .i32 p) (.int .i64 W) _ rfl H6.out rfl hF ?_;intro w5 MW5 H8;have IW:=IW.grown H8 (by simp);have MW:=MW5;have BW:=BW.grown H8 BW.size (by intro q hq;cases hq;omega)))
       | (go_at_call 325;refine(K5.out _).mono ?_;rintro e w6 ⟨rfl,rfl⟩)
       | (go_at_call 324;refine(K6.out _).mono ?_;rintro e w6 ⟨rfl,rfl⟩))
      all_goals exact⟨⟨k+j,L,_,rfl,rfl,IW,by omega,E1,by omega,by omega,MW,BW⟩,by rw[Ha.out,IW.pos];omega⟩
    · cases C
      · have e1:y3j c L (pts ((bl tb).drop (k+j))) (n+W)=R:=by simpa using e1
        have E1:=z7 e1;have Hf:=z7 hd;clear e1 hd
        go_wp2_with (first
         | (at_next;refine zt rfl _ rfl wr (w2.heap.size+1) tb k rfl hI Hg p j Hf ?_;intro w3 IW Hc He;have MW:=Hl.out w3 Hc;have BW:=H5.grown He H5.size (by intro q hq;cases hq;omega))
         | (at_lookup;refine y1r w3 rfl 369 _ _ rfl 21 3 y37 underlying369 (.int .i64 0) (y95 w3) (y5l c) w2.heap.size rfl MW (.int .i32 p) _ rfl H6.out (.int .i64 W) hF ?_ ?_)
         | (go_at_call 323;refine(K4'.out _).mono ?_;rintro e w4 ⟨rfl,H7⟩;have IW:=IW.bel H7;have MW:=MW.bel H7;have BW:=bt BW H7)
         | (at_mapUpdate;(refine y1P w4 rfl 369 _ _ _ rfl 21 3 y37 underlying369 (y5l c) w2.heap.size rfl MW (.int .i32 p) (.int .i64 W) _ rfl H6.out rfl hF ?_;intro w5 MW5 H8;have IW:=IW.grown H8 (by simp);have MW:=MW5;have BW:=BW.grown H8 BW.size (by intro q hq;cases hq;omega)))
         | (go_at_call 325;refine(K5.out _).mono ?_;rintro e w6 ⟨rfl,rfl⟩)
         | (go_at_call 324;refine(K6.out _).mono ?_;rintro e w6 ⟨rfl,rfl⟩))
        all_goals exact⟨⟨k+j,L,_,rfl,rfl,IW,by omega,E1,by omega,by omega,MW,BW⟩,by rw[Ha.out,IW.pos];omega⟩
      · have e1:y3j c L (pts ((bl tb).drop (k+j))) (n+W-3)=R:=by simpa using e1
        have E1:=z7 e1;have Hf:=z7 hd;clear e1 hd
        go_wp2_with (first
         | (at_next;refine zt rfl _ rfl wr (w2.heap.size+1) tb k rfl hI Hg p j Hf ?_;intro w3 IW Hc He;have MW:=Hl.out w3 Hc;have BW:=H5.grown He H5.size (by intro q hq;cases hq;omega))
         | (at_lookup;refine y1r w3 rfl 369 _ _ rfl 21 3 y37 underlying369 (.int .i64 0) (y95 w3) (y5l c) w2.heap.size rfl MW (.int .i32 p) _ rfl H6.out (.int .i64 W) hF ?_ ?_)
         | (go_at_call 323;refine(K4'.out _).mono ?_;rintro e w4 ⟨rfl,H7⟩;have IW:=IW.bel H7;have MW:=MW.bel H7;have BW:=bt BW H7)
         | (at_mapUpdate;(refine y1P w4 rfl 369 _ _ _ rfl 21 3 y37 underlying369 (y5l c) w2.heap.size rfl MW (.int .i32 p) (.int .i64 W) _ rfl H6.out rfl hF ?_;intro w5 MW5 H8;have IW:=IW.grown H8 (by simp);have MW:=MW5;have BW:=BW.grown H8 BW.size (by intro q hq;cases hq;omega)))
         | (go_at_call 325;refine(K5.out _).mono ?_;rintro e w6 ⟨rfl,rfl⟩)
         | (go_at_call 324;refine(K6.out _).mono ?_;rintro e w6 ⟨rfl,rfl⟩))
        all_goals exact⟨⟨k+j,L,_,rfl,rfl,IW,by omega,E1,by omega,by omega,MW,BW⟩,by rw[Ha.out,IW.pos];omega⟩
  · have k9:k=tb.size:=by omega
    subst k9;have e1:=Hh.out;rw[List.drop_of_length_le (by rw[Hm.out];exact zA),yDt]at e1;have e2:n=R:=e1;have E2:=z7 e2;clear e2;clear e1 Hh
    go_wp2_with (at_next;refine y0z rfl _ rfl wr (w2.heap.size+1) tb tb.size rfl hI (zA) ?_)
    refine bodyPost_ret (v:=.tuple #[.int .i64 n,.bool true]) (by simp[results,Tryz.results237,go_sem]) rfl ?_;refine(show ScPost _ _ _ _ from⟨by rw[←E2.out];rfl,Hs.trans (H5.mono Hs.size)⟩)
theorem yDg(c:Int)(b:ByteArray)(w:World)(h:¬(0≤c∧c≤6)):Calls prog 237 #[.int .i64 c,.string b] w (ScPost none w):=by
 have k1:=fun w=>y3R c w
 rw[show decide (0≤c∧c≤6)=false by simpa using h]at k1;have K1:=z7 k1;clear k1;clear h
 go_enter func237,ntmps237
 go_wp2_with (go_at_call 54;refine(K1.out _).mono ?_;rintro e w0 ⟨rfl,H5⟩)
 refine bodyPost_ret (v:=.tuple #[.int .i64 0,.bool false]) (by simp[results,Tryz.results237,go_sem]) rfl ?_;exact(show ScPost _ _ _ _ from⟨rfl,H5⟩)
theorem yDh(c:Int)(b:ByteArray)(w:World)(hT:TW w)(hb:b.size≤1048576)(h0:0≤c)(h1:c≤6)(t:List UInt8)(k:Nat)(hd:decT (tokC c) (bl b)=(t,some k)):Calls prog 237 #[.int .i64 c,.string b] w (ScPost none w):=by
 have k1:=fun w=>y3R c w
 rw[show decide (0≤c∧c≤6)=true by simp[h0,h1]]at k1;have k2:=fun w hT=>y0w c b w hT (by omega)
 rw[y1c c _ (by omega),hd]at k2;simp only[faultV]at k2;have k3:∀w,Calls prog 13 #[.agg #[.int .i64 2,.int .i64 k]] w fun e w'=>e=.returned (.bool true)∧Below w.heap.size w w':=fun w=>y0x 2 k w
 have K1:=z7 k1;have K2:=z7 k2;have K3:=z7 k3;have HT:=z7 hT;clear k1 k2 k3 hT;clear hd
 go_enter func237,ntmps237
 go_wp2_with (first
  | (go_at_call 54;refine(K1.out _).mono ?_;rintro e w0 ⟨rfl,H5⟩)
  | (go_at_call 127;refine(K2.out _ (HT.out.bel H5)).mono ?_;rintro e w1 ⟨rfl,H7⟩)
  | (go_at_call 13;refine(K3.out _).mono ?_;rintro e w2 ⟨rfl,H6⟩))
 refine bodyPost_ret (v:=.tuple #[.int .i64 0,.bool false]) (by simp[results,Tryz.results237,go_sem]) rfl ?_;exact(show ScPost _ _ _ _ from⟨rfl,bt (bal (bt H5 H7) _) H6⟩)
theorem y7w(c:Int)(b:ByteArray)(w:World)(hT:TW w)(hb:b.size≤1048576):Calls prog 237 #[.int .i64 c,.string b] w (ScPost (y0I c (bl b)) w):=by
 by_cases h:0≤c∧c≤6
 · rcases hd:decT (tokC c) (bl b)with⟨t,_|k⟩
   · have e:y0I c (bl b)=some (y7x c t):=by unfold y0I;rw[if_pos h,hd]
     rw[e];exact yBp c b ⟨t.toArray⟩ w hT hb h.1 h.2 hd
   · have e:y0I c (bl b)=none:=by unfold y0I;rw[if_pos h,hd]
     rw[e];exact yDh c b w hT hb h.1 h.2 t k hd
 · have e:y0I c (bl b)=none:=by unfold y0I;rw[if_neg h]
   rw[e];exact yDg c b w h
def y0u(S:Int→Option Int):List Int→Int×Int×Bool→Int×Int×Bool
 | [],st=>st
 | c::l,(best,g,f)=>match S c with
  | some n=>if best<n then y0u S l (n,c,true)else y0u S l (best,g,f)
  | none=>y0u S l (best,g,f)
noncomputable def guessR(b:List UInt8)(l:List Int):Int×Int×Bool:=y0u (fun c=>y0I c b) l (0,0,false)
theorem y5M{S:Int→Option Int}{c:Int}(h:S c=none)(l:List Int)(a g:Int)(f:Bool):y0u S (c::l) (a,g,f)=y0u S l (a,g,f):=by rw[y0u,h]
theorem y0O{S:Int→Option Int}{c n:Int}(h:S c=some n)(l:List Int)(a g:Int)(f:Bool)(hl:¬a<n):y0u S (c::l) (a,g,f)=y0u S l (a,g,f):=by rw[y0u,h];simp only;rw[if_neg hl]
theorem y5N{S:Int→Option Int}{c n:Int}(h:S c=some n)(l:List Int)(a g:Int)(f:Bool)(hl:a<n):y0u S (c::l) (a,g,f)=y0u S l (n,c,true):=by rw[y0u,h];simp only;rw[if_pos hl]
def ccells(l:List Int):List Value:=l.map fun c=>Value.int .i64 c
def yI3(r:Int×Int×Bool)(w:World)(e:Ending)(w':World):Prop:=e=.returned (.tuple #[.int .i64 r.2.1,.bool r.2.2])∧Below w.heap.size w w'
theorem yF0(b:ByteArray)(v:Value)(l:List Int)(w:World)(hT:TW w)(hb:b.size≤1048576)(H6:Row w v l.length (ccells l))(hl:l.length≤1073741824):
 Calls prog 212 #[.string b,v] w (yI3 (guessR (bl b) l) w):=by
 have k1:=fun c w hT=>y7w c b w hT hb
 obtain⟨R,hR⟩:∃R,R=guessR (bl b) l:=⟨_,rfl⟩;rw[←hR];unfold guessR at hR;obtain⟨S,hS⟩:∃S:Int→Option Int,S=fun c=>y0I c (bl b):=⟨_,rfl⟩
 rw[←hS]at hR;have k2:∀c w,TW w→Calls prog 237 #[.int .i64 c,.string b] w (ScPost (S c) w):=by rw[hS];exact k1
 obtain⟨n,hn⟩:∃n,n=l.length:=⟨_,rfl⟩;rw[←hn]at H6 hl;have H7:=H6;obtain⟨a,cap,rfl,_⟩:=H7;have K2:=z7 k2;have HR:=z7 hR;have HT:=z7 hT;have H9:=z7 H6;have HN:=z7 hn;clear k2 hR hT H6 hn;clear k1 hS
 go_enter func212,ntmps212
 go_wp2
 go_loopw [15,6,7,8] (fun iv bv fv gv wr=>∃(i:Nat) (best g:Int) (f:Bool),iv=.int .i64 (i:Int)∧bv=.int .i64 best∧fv=.bool f∧gv=.int .i64 g∧i≤n∧Hid (y0u S (l.drop i) (best,g,f)=R)∧Below w.heap.size w wr) (fun iv _ _ _ _=>n-(intOf iv).toNat)
 case atStart=>exact⟨0,0,0,false,rfl,rfl,rfl,rfl,zD,z7 (by rw[List.drop_zero];exact HR.out.symm),z8⟩
 case round=>
  obtain⟨i,best,g,f,rfl,rfl,rfl,rfl,hi,hG,H5⟩:=hrel;by_cases Hc:i<n
  · obtain⟨c,hc⟩:=zM l i (by rw[←HN.out];exact Hc)
    obtain⟨gb,o,cap',he,Ha⟩:=y0D (H9.out.keep H5) i (.int .i64 c) (by unfold ccells;rw[List.getElem?_map,hc];rfl);simp only[Value.slice.injEq]at he;obtain⟨rfl,_,rfl⟩:=he;have hd:=drop_at l i (List.getElem?_eq_some_iff.1 hc).1;rw[(List.getElem?_eq_some_iff.1 hc).2]at hd;have e1:=hG.out;rw[hd]at e1;cases hs:S c with
    | none=>
     have k3:∀w,TW w→Calls prog 237 #[.int .i64 c,.string b] w fun e w'=>e=.returned (.tuple #[.int .i64 0,.bool false])∧Below w.heap.size w w':=by
      intro w hT;have:=K2.out c w hT;rw[hs]at this;exact this
     rw[y5M hs]at e1;have K3:=z7 k3;have E1:=z7 e1;clear k3 e1;clear hs hc hd hG
     go_wp2_with (go_at_call 237;refine(K3.out _ (HT.out.bel H5)).mono ?_;rintro e w1 ⟨rfl,H8⟩)
     go_roundw
     case rel=>exact⟨i+1,best,g,f,by go_num,rfl,rfl,rfl,by omega,E1,bt H5 H8⟩
     case measure=>simp[intOf];omega
    | some m=>
     have k3:∀w,TW w→Calls prog 237 #[.int .i64 c,.string b] w fun e w'=>e=.returned (.tuple #[.int .i64 m,.bool true])∧Below w.heap.size w w':=by
      intro w hT;have:=K2.out c w hT;rw[hs]at this;exact this
     by_cases hm:best<m
     · rw[y5N hs _ _ _ _ hm]at e1
       have Hb:decide (best<m)=true:=by simpa using hm
       have K3:=z7 k3;have E1:=z7 e1;clear k3 e1;clear hs hc hd hG
       go_wp2_with (go_at_call 237;refine(K3.out _ (HT.out.bel H5)).mono ?_;rintro e w1 ⟨rfl,H8⟩)
       go_roundw
       case rel=>exact⟨i+1,m,c,true,by go_num,rfl,rfl,rfl,by omega,E1,bt H5 H8⟩
       case measure=>simp[intOf];omega
     · rw[y0O hs _ _ _ _ hm]at e1
       have Hb:decide (best<m)=false:=by simpa using hm
       have K3:=z7 k3;have E1:=z7 e1;clear k3 e1;clear hs hc hd hG
       go_wp2_with (go_at_call 237;refine(K3.out _ (HT.out.bel H5)).mono ?_;rintro e w1 ⟨rfl,H8⟩)
       go_roundw
       case rel=>exact⟨i+1,best,g,f,by go_num,rfl,rfl,rfl,by omega,E1,bt H5 H8⟩
       case measure=>simp[intOf];omega
  · have Hd:i=n:=by omega
    subst Hd;have e1:=hG.out;rw[List.drop_of_length_le (by rw[←HN.out];exact zA),y0u]at e1;have E1:=z7 e1;clear e1;clear hG
    go_wp2
    refine bodyPost_ret (v:=.tuple #[.int .i64 g,.bool f]) (by simp[results,Tryz.results212,go_sem]) rfl ?_;exact(show yI3 _ _ _ _ from⟨by rw[←E1.out],H5⟩)
def orderL:List Int:=[4,6,5,1,2,3,0]
theorem yEA(w:World):Calls prog 213 #[] w fun e w'=>∃v,e=.returned v∧Row w' v 7 (ccells orderL)∧Below w.heap.size w w':=by
 go_enter func213,ntmps213
 go_wp2
 go_ret
 exact⟨_,rfl,yGV w #[.int .i64 4,.int .i64 6,.int .i64 5,.int .i64 1,.int .i64 2,.int .i64 3,.int .i64 0] 42,bal (z8) _⟩
end Go.Proofs.YtgjchmcpondogaaGreatDoor
set_option maxHeartbeats 4000000
namespace Go.Proofs.YtgjchmcpondogaaGreatDoor
open Go.RowKit Go.Proofs.Tryz
theorem yBd:∀(f:Nat) (l:List UInt8) (at_ n:Nat),Lib.validGoD f l=(scanF f l at_ n).2.isNone:=by
 intro f
 induction f with
 | zero=>intro l at_ n;rfl
 | succ f ih=>
  intro l at_ n;rw[Lib.validGoD,scanF];by_cases h:l = []
  · rw[if_pos h,if_pos h];rfl
  · rw[if_neg h,if_neg h,Lib.decodeL_N]
    have hp:=y0Q l;unfold y0Z;show(if(dec l).1=65533∧(dec l).2=1 then false else Lib.validGoD f (l.drop (dec l).2))=_;by_cases hb:(dec l).1=65533∧(dec l).2=1
    · rw[if_pos hb,if_pos (by rw[Bool.and_eq_true,decide_eq_true_eq,decide_eq_true_eq];omega)];rfl
    · rw[if_neg hb,if_neg (by rw[Bool.and_eq_true,decide_eq_true_eq,decide_eq_true_eq];omega)]
      exact ih _ _ _
theorem y7p(s:ByteArray)(w:World)(hT:TW w)(hs:s.size≤9223372036854775807):
 Calls prog 97 #[.string s] w fun e w'=>e=.returned (.bool (scanL (bl s)).2.isNone)∧Below w.heap.size w w':=by
 have k1:∀w,TW w→Calls prog 175 #[.string s] w fun e w'=>e=.returned (.bool (scanL (bl s)).2.isNone)∧Below w.heap.size w w':=by
  intro w hT;have h:=Any.utf8_ValidString Tryz.laysValid s w hs hT.u8;have e:Lib.validD s.data.toList=(scanL (bl s)).2.isNone:=yBd _ _ _ _;rw[e]at h;exact h
 generalize (scanL (bl s)).2.isNone=r at *;have K1:=z7 k1;clear k1
 go_enter func97,ntmps97
 go_wp2_with (go_at_call 175;refine(K1.out _ hT).mono ?_;rintro e w1 ⟨rfl,H5⟩)
 go_ret
 exact⟨rfl,H5⟩
theorem sc_ko:y0I 1 [193,194]=some 8:=by decide +kernel
theorem sc_1:y0I 1 [176,161]=some (-8):=by decide +kernel
theorem sc_2:y0I 2 [176,161]=some (-8):=by decide +kernel
theorem sc_3:y0I 3 [176,161]=some 0:=by decide +kernel
theorem sc_0:y0I 0 [176,161]=some (-2):=by decide +kernel
theorem sc_6:y0I 6 [176,161]=none:=by decide +kernel
theorem sc_5:y0I 5 [176,161]=some 2:=by decide +kernel
theorem sc_4:y0I 4 [176,161]=some 6:=by decide +kernel
theorem yHN:guessR [176,161] orderL=(6,4,true):=by
 have h4:=sc_4;have h6:=sc_6;have h5:=sc_5;have h1:=sc_1;have h2:=sc_2;have h3:=sc_3;have h0:=sc_0;unfold guessR orderL;obtain⟨S,hS⟩:∃S:Int→Option Int,S=fun c=>y0I c [176,161]:=⟨_,rfl⟩
 rw[←hS];have e4:S 4=some 6:=by rw[hS];exact h4
 have e6:S 6=none:=by rw[hS];exact h6
 have e5:S 5=some 2:=by rw[hS];exact h5
 have e1:S 1=some (-8):=by rw[hS];exact h1
 have e2:S 2=some (-8):=by rw[hS];exact h2
 have e3:S 3=some 0:=by rw[hS];exact h3
 have e0:S 0=some (-2):=by rw[hS];exact h0
 rw[y5N e4 _ _ _ _ (by decide),y5M e6,y0O e5 _ _ _ _ (by decide),y0O e1 _ _ _ _ (by decide),y0O e2 _ _ _ _ (by decide),y0O e3 _ _ _ _ (by decide),y0O e0 _ _ _ _ (by decide)]
 rfl
theorem yAH(w:World)(hT:TW w):Calls prog 143 #[] w fun e w'=>e=.returned (.bool true)∧Below w.heap.size w w':=by
 have k1:∀w,TW w→Calls prog 237 #[.int .i64 1,.string ⟨#[193,194]⟩] w fun e w'=>e=.returned (.tuple #[.int .i64 8,.bool true])∧Below w.heap.size w w':=fun w hT=>by
  have h:=y7w 1 ⟨#[193,194]⟩ w hT (by decide);rw[show bl ⟨#[193,194]⟩ = [193,194] from rfl,sc_ko]at h;exact h
 have k2:∀v w,TW w→Row w v 7 (ccells orderL)→Calls prog 212 #[.string ⟨#[176,161]⟩,v] w fun e w'=>e=.returned (.tuple #[.int .i64 4,.bool true])∧Below w.heap.size w w':=fun v w hT hr=>by
  have h:=yF0 ⟨#[176,161]⟩ v orderL w hT (by decide) hr (by decide);rw[show bl ⟨#[176,161]⟩ = [176,161] from rfl,yHN]at h;exact h
 have k3:=fun w=>yEA w
 have k4:=fun w hT=>y5b w hT
 have K1:=z7 k1;have K2:=z7 k2;have K3:=z7 k3;have K4:=z7 k4;clear k1 k2 k3 k4
 go_enter func143,ntmps143
 go_wp2_with (first
  | (go_at_call 237;refine(K1.out _ hT).mono ?_;rintro e w1 ⟨rfl,H6⟩)
  | (go_at_call 213;refine(K3.out _).mono ?_;rintro e w2 ⟨v,rfl,hr,H5⟩)
  | (go_at_call 212;refine(K2.out _ _ (hT.bel (bt H6 H5)) hr).mono ?_;rintro e w3 ⟨rfl,H7⟩)
  | (go_at_call 238;refine(K4.out _ (hT.bel (bt (bt H6 H5) H7))).mono ?_;rintro e w4 ⟨rfl,H8⟩))
 go_ret
 exact⟨rfl,bt (bt (bt H6 H5) H7) H8⟩
theorem zN{w:World}{b:Nat}{cs:Array Value}{t:TypeId}(h:w.heap[b]?=some (.cells cs t (0,0)))(i:Nat)(v:Value)(hi:cs[i]?=some v):Live w b i v:=by
 unfold Live World.cell? World.frozen?;rw[h];exact⟨hi,by simp⟩
structure PS (w:World) (r H:Nat) (kd fb bu:Int) (g:Bool) (vt:ByteArray) (vs:Int) (v:Value) (wr:World):Prop where
 gg:w.grownBy wr (some r)
 sc:wr.heap[H]?=some (.cells #[.pointer (some ⟨r,0,none⟩),.int .i64 kd,.int .i64 fb,.bool g,.int .i64 bu] 263 (0,0))
 bb:wr.heap[H+1]?=some (.cells #[.string vt,.int .i64 vs,v] 62 (0,0))
 rb:wr.heap[w.heap.size+1]?=some (.cells #[.string ⟨#[]⟩,.int .i64 0,.slice none 0 0] 62 (0,0))
 hH:w.heap.size+2≤H
 hr:r<w.heap.size
section
variable {w wr:World} {r H:Nat} {kd fb bu:Int} {g:Bool} {vt:ByteArray} {vs:Int} {v:Value}
end
theorem infoStr:(Tryz.prog.info? 9).map (fun i=>(i.zero,i.size,i.bytes))=some (some (.string ⟨#[]⟩),1,16):=by kernel_rfl
theorem y1F(xs:List (List UInt8)):Lib.join xs []=xs.flatten:=by
 cases xs with
 | nil=>rfl
 | cons x r=>rw[Lib.join_cons,Lib.joinTail,List.flatten_cons];simp
section
variable {P:Program} {ops:Array Oper} {o:Oper} {a:Act} {K:Act→World→Prop} {Q:Exit→Act→World→Prop} {E:Prop}
end
end Go.Proofs.YtgjchmcpondogaaGreatDoor
namespace Go.Proofs
open Go.Shelf
def Tryz.lays160_ren:Go.Shelf.Ren:=⟨fun|160=>184|232=>287|231=>286|227=>288|234=>290|233=>289|236=>292|235=>291|228=>295|271=>365|151=>364|197=>363|120=>411|152=>293|260=>410|137=>366|119=>367|224=>368|225=>369|217=>412|266=>444|n=>n,fun|9=>9|4=>4|3=>3|5=>5|117=>330|116=>329|0=>0|124=>333|21=>21|105=>108|46=>240|119=>309|139=>312|138=>311|n=>n,fun|3=>1|4=>2|n=>n⟩
theorem Tryz.lays160:Go.Proofs.Lays.n160 Tryz.prog Tryz.lays160_ren:={
 mixed:=by kernel_rfl
 f119:=Tryz.func367.trans (congrArg some (by kernel_rfl))
 f120:=Tryz.func411.trans (congrArg some (by kernel_rfl))
 f137:=Tryz.func366.trans (congrArg some (by kernel_rfl))
 f151:=Tryz.func364.trans (congrArg some (by kernel_rfl))
 f152:=Tryz.func293.trans (congrArg some (by kernel_rfl))
 f160:=Tryz.func184.trans (congrArg some (by kernel_rfl))
 f197:=Tryz.func363.trans (congrArg some (by kernel_rfl))
 f217:=Tryz.func412.trans (congrArg some (by kernel_rfl))
 f224:=Tryz.func368.trans (congrArg some (by kernel_rfl))
 f225:=Tryz.func369.trans (congrArg some (by kernel_rfl))
 f227:=Tryz.func288.trans (congrArg some (by kernel_rfl))
 f228:=Tryz.func295.trans (congrArg some (by kernel_rfl))
 f231:=Tryz.func286.trans (congrArg some (by kernel_rfl))
 f232:=Tryz.func287.trans (congrArg some (by kernel_rfl))
 f233:=Tryz.func289.trans (congrArg some (by kernel_rfl))
 f234:=Tryz.func290.trans (congrArg some (by kernel_rfl))
 f235:=Tryz.func291.trans (congrArg some (by kernel_rfl))
 f236:=Tryz.func292.trans (congrArg some (by kernel_rfl))
 f260:=Tryz.func410.trans (congrArg some (by kernel_rfl))
 f266:=Tryz.func444.trans (congrArg some (by kernel_rfl))
 f271:=Tryz.func365.trans (congrArg some (by kernel_rfl))
 t0:=Tryz.underlying0
 a0:=Tryz.isAgg0
 z0:=Tryz.sizeOf0
 v0:=Tryz.zeroValue0
 t3:=Tryz.underlying3
 a3:=Tryz.isAgg3
 z3:=Tryz.sizeOf3
 v3:=Tryz.zeroValue3
 t4:=Tryz.underlying4
 a4:=Tryz.isAgg4
 z4:=Tryz.sizeOf4
 v4:=Tryz.zeroValue4
 t5:=Tryz.underlying5
 a5:=Tryz.isAgg5
 z5:=Tryz.sizeOf5
 v5:=Tryz.zeroValue5
 t9:=Tryz.underlying9
 a9:=Tryz.isAgg9
 z9:=Tryz.sizeOf9
 v9:=Tryz.zeroValue9
 t21:=Tryz.underlying21
 a21:=Tryz.isAgg21
 z21:=Tryz.sizeOf21
 v21:=Tryz.zeroValue21
 t46:=Tryz.underlying240
 a46:=Tryz.isAgg240
 z46:=Tryz.sizeOf240
 v46:=Tryz.zeroValue240
 t105:=Tryz.underlying108
 a105:=Tryz.isAgg108
 z105:=Tryz.sizeOf108
 v105:=Tryz.zeroValue108
 t116:=Tryz.underlying329
 a116:=Tryz.isAgg329
 z116:=Tryz.sizeOf329
 t117:=Tryz.underlying330
 a117:=Tryz.isAgg330
 z117:=Tryz.sizeOf330
 v117:=Tryz.zeroValue330
 t119:=Tryz.underlying309
 a119:=Tryz.isAgg309
 z119:=Tryz.sizeOf309
 t124:=Tryz.underlying333
 a124:=Tryz.isAgg333
 z124:=Tryz.sizeOf333
 v124:=Tryz.zeroValue333
 t138:=Tryz.underlying311
 a138:=Tryz.isAgg311
 z138:=Tryz.sizeOf311
 v138:=Tryz.zeroValue311
 t139:=Tryz.underlying312
 a139:=Tryz.isAgg312
 z139:=Tryz.sizeOf312
 v139:=Tryz.zeroValue312
 g3:=by kernel_rfl
 g4:=by kernel_rfl }
open Go.RowKit in
theorem Tryz.strings_Trim_one(s:ByteArray)(c:UInt8)(hc:c.toNat<128)(w:World)(hs:s.size≤9223372036854775807):
 Calls Tryz.prog 184 #[.string s,.string ⟨#[c]⟩] w fun e w'=>e=.returned (.string ⟨(Lib.trimB s.data.toList c).toArray⟩)∧(w'=w∨w'=w.drew):=Any.strings_Trim_one Tryz.lays160 s c hc w hs
def Tryz.lays103_ren:Go.Shelf.Ren:=⟨fun|103=>305|210=>370|206=>160|n=>n,fun|9=>9|4=>4|24=>178|3=>3|n=>n,fun|n=>n⟩
theorem Tryz.lays103:Go.Proofs.Lays.n103 Tryz.prog Tryz.lays103_ren:={
 mixed:=by kernel_rfl
 f103:=Tryz.func305.trans (congrArg some (by kernel_rfl))
 f206:=Tryz.func160.trans (congrArg some (by kernel_rfl))
 f210:=Tryz.func370.trans (congrArg some (by kernel_rfl))
 t3:=Tryz.underlying3
 a3:=Tryz.isAgg3
 z3:=Tryz.sizeOf3
 v3:=Tryz.zeroValue3
 t4:=Tryz.underlying4
 a4:=Tryz.isAgg4
 z4:=Tryz.sizeOf4
 v4:=Tryz.zeroValue4
 t9:=Tryz.underlying9
 a9:=Tryz.isAgg9
 z9:=Tryz.sizeOf9
 v9:=Tryz.zeroValue9
 t24:=Tryz.underlying178
 a24:=Tryz.isAgg178
 z24:=Tryz.sizeOf178
 v24:=Tryz.zeroValue178 }
open Go.RowKit in
theorem Tryz.strings_CutPrefix(s p:ByteArray)(w:World):
 Calls Tryz.prog 305 #[.string s,.string p] w fun e w'=>e=.returned (.tuple #[.string ⟨(Lib.trimPrefix s.data.toList p.data.toList).toArray⟩,.bool (Lib.hasPrefix s.data.toList p.data.toList)])∧w'=w:=Any.strings_CutPrefix Tryz.lays103 s p w
open Go.RowKit Go.Lib in
theorem Tryz.strings_Index_one(s:ByteArray)(c:UInt8)(w:World):
 Calls Tryz.prog 406 #[.string s,.string ⟨#[c]⟩] w fun e w'=>e=.returned (.int .i64 (Lib.indexByte s.data.toList c))∧w'=w:=Any.strings_Index_one Tryz.lays143 s c w
def Tryz.lays144_ren:Go.Shelf.Ren:=⟨fun|144=>408|143=>406|219=>443|217=>412|225=>369|224=>368|267=>465|266=>444|314=>474|n=>n,fun|9=>9|4=>4|3=>3|5=>5|46=>240|146=>417|51=>53|n=>n,fun|1=>3|n=>n⟩
theorem Tryz.lays144:Go.Proofs.Lays.n144 Tryz.prog Tryz.lays144_ren:={
 mixed:=by kernel_rfl
 f143:=Tryz.func406.trans (congrArg some (by kernel_rfl))
 f144:=Tryz.func408.trans (congrArg some (by kernel_rfl))
 f217:=Tryz.func412.trans (congrArg some (by kernel_rfl))
 f219:=Tryz.func443.trans (congrArg some (by kernel_rfl))
 f224:=Tryz.func368.trans (congrArg some (by kernel_rfl))
 f225:=Tryz.func369.trans (congrArg some (by kernel_rfl))
 f266:=Tryz.func444.trans (congrArg some (by kernel_rfl))
 f267:=Tryz.func465.trans (congrArg some (by kernel_rfl))
 f314:=Tryz.func474.trans (congrArg some (by kernel_rfl))
 t3:=Tryz.underlying3
 a3:=Tryz.isAgg3
 z3:=Tryz.sizeOf3
 v3:=Tryz.zeroValue3
 t4:=Tryz.underlying4
 a4:=Tryz.isAgg4
 z4:=Tryz.sizeOf4
 v4:=Tryz.zeroValue4
 t5:=Tryz.underlying5
 a5:=Tryz.isAgg5
 z5:=Tryz.sizeOf5
 v5:=Tryz.zeroValue5
 t9:=Tryz.underlying9
 a9:=Tryz.isAgg9
 z9:=Tryz.sizeOf9
 v9:=Tryz.zeroValue9
 t46:=Tryz.underlying240
 a46:=Tryz.isAgg240
 z46:=Tryz.sizeOf240
 v46:=Tryz.zeroValue240
 t51:=Tryz.underlying53
 a51:=Tryz.isAgg53
 z51:=Tryz.sizeOf53
 v51:=Tryz.zeroValue53
 t146:=Tryz.underlying417
 a146:=Tryz.isAgg417
 z146:=Tryz.sizeOf417
 v146:=Tryz.zeroValue417
 g1:=by kernel_rfl }
open Go.RowKit Go.Lib in
theorem Tryz.strings_Contains_one(s:ByteArray)(c:UInt8)(w:World):
 Calls Tryz.prog 408 #[.string s,.string ⟨#[c]⟩] w fun e w'=>e=.returned (.bool (decide (0≤Lib.indexByte s.data.toList c)))∧w'=w:=Any.strings_Contains_one Tryz.lays144 s c w
def Tryz.lays148_ren:Go.Shelf.Ren:=⟨fun|148=>281|222=>361|223=>362|269=>409|n=>n,fun|9=>9|3=>3|4=>4|5=>5|146=>417|51=>53|46=>240|n=>n,fun|n=>n⟩
theorem Tryz.lays148:Go.Proofs.Lays.n148 Tryz.prog Tryz.lays148_ren:={
 mixed:=by kernel_rfl
 f148:=Tryz.func281.trans (congrArg some (by kernel_rfl))
 f222:=Tryz.func361.trans (congrArg some (by kernel_rfl))
 f223:=Tryz.func362.trans (congrArg some (by kernel_rfl))
 f269:=Tryz.func409.trans (congrArg some (by kernel_rfl))
 t3:=Tryz.underlying3
 a3:=Tryz.isAgg3
 z3:=Tryz.sizeOf3
 v3:=Tryz.zeroValue3
 t4:=Tryz.underlying4
 a4:=Tryz.isAgg4
 z4:=Tryz.sizeOf4
 v4:=Tryz.zeroValue4
 t5:=Tryz.underlying5
 a5:=Tryz.isAgg5
 z5:=Tryz.sizeOf5
 v5:=Tryz.zeroValue5
 t9:=Tryz.underlying9
 a9:=Tryz.isAgg9
 z9:=Tryz.sizeOf9
 v9:=Tryz.zeroValue9
 t46:=Tryz.underlying240
 a46:=Tryz.isAgg240
 z46:=Tryz.sizeOf240
 v46:=Tryz.zeroValue240
 t51:=Tryz.underlying53
 a51:=Tryz.isAgg53
 z51:=Tryz.sizeOf53
 v51:=Tryz.zeroValue53
 t146:=Tryz.underlying417
 a146:=Tryz.isAgg417
 z146:=Tryz.sizeOf417
 v146:=Tryz.zeroValue417 }
open Go.RowKit Go.Lib in
theorem Tryz.strings_LastIndex_one(s sub:ByteArray)(h1:sub.size=1)(hs:s.size<4611686018427387904)(w:World):
 Calls Tryz.prog 281 #[.string s,.string sub] w fun e w'=>e=.returned (.int .i64 (Lib.lastIndexByte s ((sub[0]'(by omega)).toNat:Int)))∧w'=w:=Any.strings_LastIndex_one Tryz.lays148 s sub h1 hs w
def Tryz.lays99_ren:Go.Shelf.Ren:=⟨fun|99=>87|206=>160|n=>n,fun|9=>9|4=>4|3=>3|n=>n,fun|n=>n⟩
theorem Tryz.lays99:Go.Proofs.Lays.n99 Tryz.prog Tryz.lays99_ren:={
 mixed:=by kernel_rfl
 f99:=Tryz.func87.trans (congrArg some (by kernel_rfl))
 f206:=Tryz.func160.trans (congrArg some (by kernel_rfl))
 t3:=Tryz.underlying3
 a3:=Tryz.isAgg3
 z3:=Tryz.sizeOf3
 v3:=Tryz.zeroValue3
 t4:=Tryz.underlying4
 a4:=Tryz.isAgg4
 z4:=Tryz.sizeOf4
 v4:=Tryz.zeroValue4
 t9:=Tryz.underlying9
 a9:=Tryz.isAgg9
 z9:=Tryz.sizeOf9
 v9:=Tryz.zeroValue9 }
open Go.RowKit Go.Lib in
theorem Tryz.strings_HasPrefix(s p:ByteArray)(w:World):
 Calls Tryz.prog 87 #[.string s,.string p] w fun e w'=>e=.returned (.bool (Lib.hasPrefix s.data.toList p.data.toList))∧w'=w:=Any.strings_HasPrefix Tryz.lays99 s p w
def Tryz.lays146_ren:Go.Shelf.Ren:=⟨fun|146=>404|221=>442|268=>463|138=>464|143=>406|195=>472|197=>363|218=>473|219=>443|260=>410|217=>412|225=>369|224=>368|267=>465|266=>444|314=>474|n=>n,fun|9=>9|31=>131|3=>3|4=>4|0=>0|105=>108|21=>21|5=>5|46=>240|119=>309|139=>312|138=>311|146=>417|51=>53|n=>n,fun|1=>3|3=>1|4=>2|n=>n⟩
theorem Tryz.lays146:Go.Proofs.Lays.n146 Tryz.prog Tryz.lays146_ren:={
 mixed:=by kernel_rfl
 f138:=Tryz.func464.trans (congrArg some (by kernel_rfl))
 f143:=Tryz.func406.trans (congrArg some (by kernel_rfl))
 f146:=Tryz.func404.trans (congrArg some (by kernel_rfl))
 f195:=Tryz.func472.trans (congrArg some (by kernel_rfl))
 f197:=Tryz.func363.trans (congrArg some (by kernel_rfl))
 f217:=Tryz.func412.trans (congrArg some (by kernel_rfl))
 f218:=Tryz.func473.trans (congrArg some (by kernel_rfl))
 f219:=Tryz.func443.trans (congrArg some (by kernel_rfl))
 f221:=Tryz.func442.trans (congrArg some (by kernel_rfl))
 f224:=Tryz.func368.trans (congrArg some (by kernel_rfl))
 f225:=Tryz.func369.trans (congrArg some (by kernel_rfl))
 f260:=Tryz.func410.trans (congrArg some (by kernel_rfl))
 f266:=Tryz.func444.trans (congrArg some (by kernel_rfl))
 f267:=Tryz.func465.trans (congrArg some (by kernel_rfl))
 f268:=Tryz.func463.trans (congrArg some (by kernel_rfl))
 f314:=Tryz.func474.trans (congrArg some (by kernel_rfl))
 t0:=Tryz.underlying0
 a0:=Tryz.isAgg0
 z0:=Tryz.sizeOf0
 v0:=Tryz.zeroValue0
 t3:=Tryz.underlying3
 a3:=Tryz.isAgg3
 z3:=Tryz.sizeOf3
 v3:=Tryz.zeroValue3
 t4:=Tryz.underlying4
 a4:=Tryz.isAgg4
 z4:=Tryz.sizeOf4
 v4:=Tryz.zeroValue4
 t5:=Tryz.underlying5
 a5:=Tryz.isAgg5
 z5:=Tryz.sizeOf5
 v5:=Tryz.zeroValue5
 t9:=Tryz.underlying9
 a9:=Tryz.isAgg9
 z9:=Tryz.sizeOf9
 v9:=Tryz.zeroValue9
 t21:=Tryz.underlying21
 a21:=Tryz.isAgg21
 z21:=Tryz.sizeOf21
 v21:=Tryz.zeroValue21
 t31:=Tryz.underlying131
 a31:=Tryz.isAgg131
 z31:=Tryz.sizeOf131
 v31:=Tryz.zeroValue131
 t46:=Tryz.underlying240
 a46:=Tryz.isAgg240
 z46:=Tryz.sizeOf240
 v46:=Tryz.zeroValue240
 t51:=Tryz.underlying53
 a51:=Tryz.isAgg53
 z51:=Tryz.sizeOf53
 v51:=Tryz.zeroValue53
 t105:=Tryz.underlying108
 a105:=Tryz.isAgg108
 z105:=Tryz.sizeOf108
 v105:=Tryz.zeroValue108
 t119:=Tryz.underlying309
 a119:=Tryz.isAgg309
 z119:=Tryz.sizeOf309
 t138:=Tryz.underlying311
 a138:=Tryz.isAgg311
 z138:=Tryz.sizeOf311
 v138:=Tryz.zeroValue311
 t139:=Tryz.underlying312
 a139:=Tryz.isAgg312
 z139:=Tryz.sizeOf312
 v139:=Tryz.zeroValue312
 t146:=Tryz.underlying417
 a146:=Tryz.isAgg417
 z146:=Tryz.sizeOf417
 v146:=Tryz.zeroValue417
 g1:=by kernel_rfl
 g3:=by kernel_rfl
 g4:=by kernel_rfl }
open Go.RowKit Go.Lib in
theorem Tryz.strings_Split(s sep:ByteArray)(m:Int)(w:World)(hs:s.size<4294967281)(hm:w.cell? ⟨3,0,none⟩=some (.int .i64 m))(h1:1≤sep.size):
 Calls Tryz.prog 404 #[.string s,.string sep] w fun e w'=>
  e=.returned (.slice (some ⟨w.heap.size,0,none⟩) (Lib.countB s sep+1) (Lib.countB s sep+1))∧w'=w.alloc (.cells ((Lib.splitB sep 0 (Lib.countB s sep) s).map Value.string).toArray 9):=Any.strings_Split Tryz.lays146 (by kernel_rfl) s sep m w hs hm h1
def Tryz.lays147_ren:Go.Shelf.Ren:=⟨fun|147=>405|221=>442|268=>463|138=>464|143=>406|195=>472|197=>363|218=>473|219=>443|260=>410|217=>412|225=>369|224=>368|267=>465|266=>444|314=>474|n=>n,fun|9=>9|3=>3|31=>131|4=>4|0=>0|105=>108|21=>21|5=>5|46=>240|119=>309|139=>312|138=>311|146=>417|51=>53|n=>n,fun|1=>3|3=>1|4=>2|n=>n⟩
theorem Tryz.lays147:Go.Proofs.Lays.n147 Tryz.prog Tryz.lays147_ren:={
 mixed:=by kernel_rfl
 f138:=Tryz.func464.trans (congrArg some (by kernel_rfl))
 f143:=Tryz.func406.trans (congrArg some (by kernel_rfl))
 f147:=Tryz.func405.trans (congrArg some (by kernel_rfl))
 f195:=Tryz.func472.trans (congrArg some (by kernel_rfl))
 f197:=Tryz.func363.trans (congrArg some (by kernel_rfl))
 f217:=Tryz.func412.trans (congrArg some (by kernel_rfl))
 f218:=Tryz.func473.trans (congrArg some (by kernel_rfl))
 f219:=Tryz.func443.trans (congrArg some (by kernel_rfl))
 f221:=Tryz.func442.trans (congrArg some (by kernel_rfl))
 f224:=Tryz.func368.trans (congrArg some (by kernel_rfl))
 f225:=Tryz.func369.trans (congrArg some (by kernel_rfl))
 f260:=Tryz.func410.trans (congrArg some (by kernel_rfl))
 f266:=Tryz.func444.trans (congrArg some (by kernel_rfl))
 f267:=Tryz.func465.trans (congrArg some (by kernel_rfl))
 f268:=Tryz.func463.trans (congrArg some (by kernel_rfl))
 f314:=Tryz.func474.trans (congrArg some (by kernel_rfl))
 t0:=Tryz.underlying0
 a0:=Tryz.isAgg0
 z0:=Tryz.sizeOf0
 v0:=Tryz.zeroValue0
 t3:=Tryz.underlying3
 a3:=Tryz.isAgg3
 z3:=Tryz.sizeOf3
 v3:=Tryz.zeroValue3
 t4:=Tryz.underlying4
 a4:=Tryz.isAgg4
 z4:=Tryz.sizeOf4
 v4:=Tryz.zeroValue4
 t5:=Tryz.underlying5
 a5:=Tryz.isAgg5
 z5:=Tryz.sizeOf5
 v5:=Tryz.zeroValue5
 t9:=Tryz.underlying9
 a9:=Tryz.isAgg9
 z9:=Tryz.sizeOf9
 v9:=Tryz.zeroValue9
 t21:=Tryz.underlying21
 a21:=Tryz.isAgg21
 z21:=Tryz.sizeOf21
 v21:=Tryz.zeroValue21
 t31:=Tryz.underlying131
 a31:=Tryz.isAgg131
 z31:=Tryz.sizeOf131
 v31:=Tryz.zeroValue131
 t46:=Tryz.underlying240
 a46:=Tryz.isAgg240
 z46:=Tryz.sizeOf240
 v46:=Tryz.zeroValue240
 t51:=Tryz.underlying53
 a51:=Tryz.isAgg53
 z51:=Tryz.sizeOf53
 v51:=Tryz.zeroValue53
 t105:=Tryz.underlying108
 a105:=Tryz.isAgg108
 z105:=Tryz.sizeOf108
 v105:=Tryz.zeroValue108
 t119:=Tryz.underlying309
 a119:=Tryz.isAgg309
 z119:=Tryz.sizeOf309
 t138:=Tryz.underlying311
 a138:=Tryz.isAgg311
 z138:=Tryz.sizeOf311
 v138:=Tryz.zeroValue311
 t139:=Tryz.underlying312
 a139:=Tryz.isAgg312
 z139:=Tryz.sizeOf312
 v139:=Tryz.zeroValue312
 t146:=Tryz.underlying417
 a146:=Tryz.isAgg417
 z146:=Tryz.sizeOf417
 v146:=Tryz.zeroValue417
 g1:=by kernel_rfl
 g3:=by kernel_rfl
 g4:=by kernel_rfl }
open Go.RowKit Go.Lib in
theorem Tryz.strings_SplitN(s sep:ByteArray)(n:Nat)(m:Int)(w:World)(hs:s.size<4294967281)(hm:w.cell? ⟨3,0,none⟩=some (.int .i64 m))(h1:1≤sep.size)(hn:1≤n)(hn63:n≤9223372036854775807):
 Calls Tryz.prog 405 #[.string s,.string sep,.int .i64 n] w fun e w'=>
  e=.returned (.slice (some ⟨w.heap.size,0,none⟩) (Lib.splitB sep 0 (min n (s.size+1)-1) s).length (min n (s.size+1)))∧w'=w.alloc (.cells (Lib.cellsOf (Lib.splitB sep 0 (min n (s.size+1)-1) s) (min n (s.size+1))) 9):=Any.strings_SplitN Tryz.lays147 (by kernel_rfl) s sep n m w hs hm h1 hn hn63
end Go.Proofs
namespace Go.Proofs.YtgjchmcpondogaaGreatDoor
open Go.RowKit Go.Proofs.Tryz
section
variable {P:Program} {ops:Array Oper} {rest:List Oper} {o:Oper} {a:Act} {Q:Exit→Act→World→Prop}
end
end Go.Proofs.YtgjchmcpondogaaGreatDoor
