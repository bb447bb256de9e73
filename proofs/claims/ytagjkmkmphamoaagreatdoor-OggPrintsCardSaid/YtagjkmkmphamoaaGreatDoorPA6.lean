/- A6 -/
import Derived.Test.YtagjkmkmphamoaaGreatDoorPA4
import Derived.Test.YtagjkmkmphamoaaGreatDoorPA3
import Derived.Test.YtagjkmkmphamoaaGreatDoorPPo
import Derived.Test.YtagjkmkmphamoaaGreatDoorPA5
import Derived.Test.YtagjkmkmphamoaaGreatDoorPShelf
set_option linter.all false
set_option maxHeartbeats 8000000
namespace Go.Proofs.YtagjkmkmphamoaaGreatDoor
open Go.RowKit
noncomputable def scoreF(c:Int):Bool→List Int→Int→Int
 | _,[],n=>n
 | s,p::l,n=>scoreF c (letterB p) l (n+weightM c p-(if s&&capitalB p then 3 else 0))
noncomputable def scoreM(c:Int)(t:List UInt8):Int:=scoreF c false (pts t) 0
noncomputable def scoreR(c:Int)(l:List UInt8):Option Int:=if 0≤c∧c≤6 then(match decT (tokC c) l with|(t,none)=>some (scoreM c t)|(_,some _)=>none)else none
def scoreV:Option Int→Value
 | some n=>.tuple #[.int .i64 n,.bool true]
 | none=>.tuple #[.int .i64 0,.bool false]
def ScPost(r:Option Int)(w:World)(e:Ending)(w':World):Prop:=e=.returned (scoreV r)∧Below w.heap.size w w'
noncomputable def wMemo(c:Int):Value→Value
 | .int .i32 p=>.int .i64 (weightM c p)
 | v=>v
theorem qq2(c:Int)(s:Bool)(p:Int)(l:List Int)(n:Int):scoreF c s (p::l) n=scoreF c (letterB p) l (n+weightM c p-(if s&&capitalB p then 3 else 0)):=rfl
theorem qp5(w:World):(zeroValue 3).run Tryz.prog w=.ok (.int .i64 0) w:=by simp[zeroValue,Tryz.underlying3,go_sem];rfl
set_option maxRecDepth 100000 in
theorem vf3(c:Int)(b tb:ByteArray)(w:World)(hT:TW w)(hb:b.size≤1048576)(h0:0≤c)(h1:c≤6)(hd:decT (tokC c) (bl b)=(bl tb,none)):
 Calls Tryz.prog 109 #[.int .i64 c,.string b] w (ScPost (some (scoreM c (bl tb))) w):=by
 have k1:=fun w=>kb8 c w
 rw[show decide (0≤c∧c≤6)=true by simp[h0,h1]]at k1;have k2:=fun w hT=>jk5 c b w hT (by omega)
 rw[js6 c _ (by omega),hd]at k2;simp only[faultV]at k2;rw[show(⟨(bl tb).toArray⟩:ByteArray)=tb from js2 tb]at k2;have k3:∀w,Calls Tryz.prog 16 #[.agg #[.int .i64 0,.int .i64 0]] w fun e w'=>e=.returned (.bool false)∧Below w.heap.size w w':=fun w=>jb8 0 0 w
 have k4:=fun p w hp0 hp1=>vd1 c p w h0 h1 hp0 hp1
 have hts:tb.size≤1073741824:=by
  have:=vk6 (vr6 c) (bl b);rw[hd,jb1,jb1]at this;omega
 obtain⟨R,hR⟩:∃R,R=scoreM c (bl tb):=⟨_,rfl⟩;rw[←hR];have K1:=Lib.hid k1;have K2:=Lib.hid k2;have K3:=Lib.hid k3;have K4:=Lib.hid k4;have HR:=Lib.hid hR;have HT:=Lib.hid hT;clear k1 k2 k3 k4 hR hT;clear hd;have HBL:Hid ((bl tb).length=tb.size):=jb1 tb
 go_enter Tryz.func109,Tryz.ntmps109
 go_wp2_with (first
  | (go_at_call 128;refine(K1.out _).mono ?_;rintro e w0 ⟨rfl,hb0⟩)
  | (go_at_call 104;refine(K2.out _ (HT.out.bel hb0)).mono ?_;rintro e w1 ⟨rfl,hb1⟩)
  | (go_at_call 16;refine(K3.out _).mono ?_;rintro e w2 ⟨rfl,hb2⟩)
  | (refine jp8 rfl _ rfl _ ?_))
 have hbw:=bt (bal (bt hb0 hb1) _) hb2;have hM0:=MemoG.made 21 (wMemo c) w2;have hbi:Below (w2.alloc (.map #[] 0)).heap.size (w2.alloc (.map #[] 0)) ((w2.alloc (.map #[] 0)).iter tb 0):=(Below.refl _ _).alloc (Nat.le_refl _) _;have hI0:=ItS.made (w2.alloc (.map #[] 0)) tb;have hM1:=hM0.bel hbi;have hB1:Below w2.heap.size w2 ((w2.alloc (.map #[] 0)).iter tb 0):=bt (bal (Below.refl _ _) _) hbi;have hrs:(w2.alloc (.map #[] 0)).heap.size=w2.heap.size+1:=World.size_alloc _ _;generalize (w2.alloc (.map #[] 0)).iter tb 0=W0 at *;rw[hrs]at hI0;clear hbi hM0 hrs hb0 hb1 hb2
 go_loopw [9,10] (fun nv sv wr=>∃(k:Nat) (s:Bool) (n:Int),nv=.int .i64 n∧sv=.bool s∧ItS wr (w2.heap.size+1) tb k∧k≤tb.size∧Hid (scoreF c s (pts ((bl tb).drop k)) n=R) ∧ -11*(k:Int)≤n∧n≤6*(k:Int)∧MemoG 21 (wMemo c) wr w2.heap.size∧Below w2.heap.size w2 wr) (fun _ _ wr=>tb.size-wr.iterPos (w2.heap.size+1))
 case atStart=>exact⟨0,false,0,rfl,rfl,hI0,Nat.zero_le _,by have:=HR.out;unfold scoreM at this;rw[List.drop_zero];exact Lib.hid this.symm,by omega,by omega,hM1,hB1⟩
 case round=>
  obtain⟨k,s,n,rfl,rfl,hI,hk,hRT,hn0,hn1,hM,hbel⟩:=hrel;have hpos:=hI.pos;have HPOS:=Lib.hid hpos;clear hpos;by_cases hlt:k<tb.size
  · rcases hd:dec ((bl tb).drop k)with⟨p,j⟩
    have hdp:=jg2 ((bl tb).drop k);have hdr:=jz2 ((bl tb).drop k);have hne2:(bl tb).drop k ≠ []:=js4 (by rw[HBL.out];exact hlt);have hdl:=jz3 _ hne2;rw[List.length_drop,HBL.out]at hdl;have hp:=kg3 _ hne2;rw[List.drop_drop]at hp;rw[hd]at hdp hdr hdl hp;simp only at hdp hdr hdl hp;have e1:=hRT.out;rw[hp,qq2]at e1;have hwb:=vp5 c p;have hkey:=keyR p (by omega) (by omega);have hF:Hid (wMemo c (.int .i32 p)=.int .i64 (weightM c p)):=rfl;have k4:=fun w=>K4.out p w (by omega) (by omega)
    have k5:=fun w=>kv1 p w
    have k6:=fun w=>kp6 p w
    generalize weightM c p=W at *;generalize letterB p=L at *;generalize capitalB p=C at *;have hw1:IntKind.i64.wrap (n+W)=n+W:=wi64 _ (by omega) (by omega);have hw2:IntKind.i64.wrap (n+W-3)=n+W-3:=wi64 _ (by omega) (by omega);have hM3:∀w':World,(∀j,j≠w2.heap.size+1→w'.heap[j]?=wr.heap[j]?)→MemoG 21 (wMemo c) w' w2.heap.size:=fun w' h=>hM.blk (h _ (by omega))
    have K4':=Lib.hid k4;have K5:=Lib.hid k5;have K6:=Lib.hid k6;have HW1:=Lib.hid hw1;have HW2:=Lib.hid hw2;have HM3:=Lib.hid hM3;have HKEY:=Lib.hid hkey;clear k4 k5 k6 hw1 hw2 hM3 hkey;clear hp hne2 hRT;cases s
    · have e1:scoreF c L (pts ((bl tb).drop (k+j))) (n+W)=R:=by simpa using e1
      have E1:=Lib.hid e1;have HDC:=Lib.hid hd;clear e1 hd
      go_wp2_with (first
       | (at_next;refine jd8 rfl _ rfl wr (w2.heap.size+1) tb k rfl hI hlt p j HDC ?_;intro w3 IW ho3 hg3;have MW:=HM3.out w3 ho3;have BW:=hbel.grown hg3 hbel.size (by intro q hq;cases hq;omega))
       | (at_lookup;refine jr5 w3 rfl 184 _ _ rfl 21 3 jx2 Tryz.underlying184 (.int .i64 0) (qp5 w3) (wMemo c) w2.heap.size rfl MW (.int .i32 p) _ rfl HKEY.out (.int .i64 W) hF ?_ ?_)
       | (go_at_call 129;refine(K4'.out _).mono ?_;rintro e w4 ⟨rfl,hb4⟩;have IW:=IW.bel hb4;have MW:=MW.bel hb4;have BW:=bt BW hb4)
       | (at_mapUpdate;(refine jp7 w4 rfl 184 _ _ _ rfl 21 3 jx2 Tryz.underlying184 (wMemo c) w2.heap.size rfl MW (.int .i32 p) (.int .i64 W) _ rfl HKEY.out rfl hF ?_;intro w5 MW5 hg5;have IW:=IW.grown hg5 (by simp);have MW:=MW5;have BW:=BW.grown hg5 BW.size (by intro q hq;cases hq;omega)))
       | (go_at_call 131;refine(K5.out _).mono ?_;rintro e w6 ⟨rfl,rfl⟩)
       | (go_at_call 130;refine(K6.out _).mono ?_;rintro e w6 ⟨rfl,rfl⟩))
      all_goals exact⟨⟨k+j,L,_,rfl,rfl,IW,by omega,E1,by omega,by omega,MW,BW⟩,by rw[HPOS.out,IW.pos];omega⟩
    · cases C
      · have e1:scoreF c L (pts ((bl tb).drop (k+j))) (n+W)=R:=by simpa using e1
        have E1:=Lib.hid e1;have HDC:=Lib.hid hd;clear e1 hd
        go_wp2_with (first
         | (at_next;refine jd8 rfl _ rfl wr (w2.heap.size+1) tb k rfl hI hlt p j HDC ?_;intro w3 IW ho3 hg3;have MW:=HM3.out w3 ho3;have BW:=hbel.grown hg3 hbel.size (by intro q hq;cases hq;omega))
         | (at_lookup;refine jr5 w3 rfl 184 _ _ rfl 21 3 jx2 Tryz.underlying184 (.int .i64 0) (qp5 w3) (wMemo c) w2.heap.size rfl MW (.int .i32 p) _ rfl HKEY.out (.int .i64 W) hF ?_ ?_)
         | (go_at_call 129;refine(K4'.out _).mono ?_;rintro e w4 ⟨rfl,hb4⟩;have IW:=IW.bel hb4;have MW:=MW.bel hb4;have BW:=bt BW hb4)
         | (at_mapUpdate;(refine jp7 w4 rfl 184 _ _ _ rfl 21 3 jx2 Tryz.underlying184 (wMemo c) w2.heap.size rfl MW (.int .i32 p) (.int .i64 W) _ rfl HKEY.out rfl hF ?_;intro w5 MW5 hg5;have IW:=IW.grown hg5 (by simp);have MW:=MW5;have BW:=BW.grown hg5 BW.size (by intro q hq;cases hq;omega)))
         | (go_at_call 131;refine(K5.out _).mono ?_;rintro e w6 ⟨rfl,rfl⟩)
         | (go_at_call 130;refine(K6.out _).mono ?_;rintro e w6 ⟨rfl,rfl⟩))
        all_goals exact⟨⟨k+j,L,_,rfl,rfl,IW,by omega,E1,by omega,by omega,MW,BW⟩,by rw[HPOS.out,IW.pos];omega⟩
      · have e1:scoreF c L (pts ((bl tb).drop (k+j))) (n+W-3)=R:=by simpa using e1
        have E1:=Lib.hid e1;have HDC:=Lib.hid hd;clear e1 hd
        go_wp2_with (first
         | (at_next;refine jd8 rfl _ rfl wr (w2.heap.size+1) tb k rfl hI hlt p j HDC ?_;intro w3 IW ho3 hg3;have MW:=HM3.out w3 ho3;have BW:=hbel.grown hg3 hbel.size (by intro q hq;cases hq;omega))
         | (at_lookup;refine jr5 w3 rfl 184 _ _ rfl 21 3 jx2 Tryz.underlying184 (.int .i64 0) (qp5 w3) (wMemo c) w2.heap.size rfl MW (.int .i32 p) _ rfl HKEY.out (.int .i64 W) hF ?_ ?_)
         | (go_at_call 129;refine(K4'.out _).mono ?_;rintro e w4 ⟨rfl,hb4⟩;have IW:=IW.bel hb4;have MW:=MW.bel hb4;have BW:=bt BW hb4)
         | (at_mapUpdate;(refine jp7 w4 rfl 184 _ _ _ rfl 21 3 jx2 Tryz.underlying184 (wMemo c) w2.heap.size rfl MW (.int .i32 p) (.int .i64 W) _ rfl HKEY.out rfl hF ?_;intro w5 MW5 hg5;have IW:=IW.grown hg5 (by simp);have MW:=MW5;have BW:=BW.grown hg5 BW.size (by intro q hq;cases hq;omega)))
         | (go_at_call 131;refine(K5.out _).mono ?_;rintro e w6 ⟨rfl,rfl⟩)
         | (go_at_call 130;refine(K6.out _).mono ?_;rintro e w6 ⟨rfl,rfl⟩))
        all_goals exact⟨⟨k+j,L,_,rfl,rfl,IW,by omega,E1,by omega,by omega,MW,BW⟩,by rw[HPOS.out,IW.pos];omega⟩
  · have hkk:k=tb.size:=by omega
    subst hkk;have e1:=hRT.out;rw[List.drop_of_length_le (by rw[HBL.out];exact Nat.le_refl _),kz6]at e1;have e2:n=R:=e1;have E2:=Lib.hid e2;clear e2;clear e1 hRT
    go_wp2_with (at_next;refine jk6 rfl _ rfl wr (w2.heap.size+1) tb tb.size rfl hI (Nat.le_refl _) ?_)
    refine bodyPost_ret (v:=.tuple #[.int .i64 n,.bool true]) (by simp[results,Tryz.results109,go_sem]) rfl ?_;refine(show ScPost _ _ _ _ from⟨by rw[←E2.out];rfl,hbw.trans (hbel.mono hbw.size)⟩)
theorem vr9(c:Int)(b:ByteArray)(w:World)(h:¬(0≤c∧c≤6)):Calls Tryz.prog 109 #[.int .i64 c,.string b] w (ScPost none w):=by
 have k1:=fun w=>kb8 c w
 rw[show decide (0≤c∧c≤6)=false by simpa using h]at k1;have K1:=Lib.hid k1;clear k1;clear h
 go_enter Tryz.func109,Tryz.ntmps109
 go_wp2_with (go_at_call 128;refine(K1.out _).mono ?_;rintro e w0 ⟨rfl,hb0⟩)
 refine bodyPost_ret (v:=.tuple #[.int .i64 0,.bool false]) (by simp[results,Tryz.results109,go_sem]) rfl ?_;exact(show ScPost _ _ _ _ from⟨rfl,hb0⟩)
theorem vs4(c:Int)(b:ByteArray)(w:World)(hT:TW w)(hb:b.size≤1048576)(h0:0≤c)(h1:c≤6)(t:List UInt8)(k:Nat)(hd:decT (tokC c) (bl b)=(t,some k)):Calls Tryz.prog 109 #[.int .i64 c,.string b] w (ScPost none w):=by
 have k1:=fun w=>kb8 c w
 rw[show decide (0≤c∧c≤6)=true by simp[h0,h1]]at k1;have k2:=fun w hT=>jk5 c b w hT (by omega)
 rw[js6 c _ (by omega),hd]at k2;simp only[faultV]at k2;have k3:∀w,Calls Tryz.prog 16 #[.agg #[.int .i64 2,.int .i64 k]] w fun e w'=>e=.returned (.bool true)∧Below w.heap.size w w':=fun w=>jb8 2 k w
 have K1:=Lib.hid k1;have K2:=Lib.hid k2;have K3:=Lib.hid k3;have HT:=Lib.hid hT;clear k1 k2 k3 hT;clear hd
 go_enter Tryz.func109,Tryz.ntmps109
 go_wp2_with (first
  | (go_at_call 128;refine(K1.out _).mono ?_;rintro e w0 ⟨rfl,hb0⟩)
  | (go_at_call 104;refine(K2.out _ (HT.out.bel hb0)).mono ?_;rintro e w1 ⟨rfl,hb1⟩)
  | (go_at_call 16;refine(K3.out _).mono ?_;rintro e w2 ⟨rfl,hb2⟩))
 refine bodyPost_ret (v:=.tuple #[.int .i64 0,.bool false]) (by simp[results,Tryz.results109,go_sem]) rfl ?_;exact(show ScPost _ _ _ _ from⟨rfl,bt (bal (bt hb0 hb1) _) hb2⟩)
theorem qf9(c:Int)(b:ByteArray)(w:World)(hT:TW w)(hb:b.size≤1048576):Calls Tryz.prog 109 #[.int .i64 c,.string b] w (ScPost (scoreR c (bl b)) w):=by
 by_cases h:0≤c∧c≤6
 · rcases hd:decT (tokC c) (bl b)with⟨t,_|k⟩
   · have e:scoreR c (bl b)=some (scoreM c t):=by unfold scoreR;rw[if_pos h,hd]
     rw[e];exact vf3 c b ⟨t.toArray⟩ w hT hb h.1 h.2 hd
   · have e:scoreR c (bl b)=none:=by unfold scoreR;rw[if_pos h,hd]
     rw[e];exact vs4 c b w hT hb h.1 h.2 t k hd
 · have e:scoreR c (bl b)=none:=by unfold scoreR;rw[if_neg h]
   rw[e];exact vr9 c b w h
def guessF(S:Int→Option Int):List Int→Int×Int×Bool→Int×Int×Bool
 | [],st=>st
 | c::l,(best,g,f)=>match S c with
  | some n=>if best<n then guessF S l (n,c,true)else guessF S l (best,g,f)
  | none=>guessF S l (best,g,f)
noncomputable def guessR(b:List UInt8)(l:List Int):Int×Int×Bool:=guessF (fun c=>scoreR c b) l (0,0,false)
theorem jw4{S:Int→Option Int}{c:Int}(h:S c=none)(l:List Int)(a g:Int)(f:Bool):guessF S (c::l) (a,g,f)=guessF S l (a,g,f):=by rw[guessF,h]
theorem jf8{S:Int→Option Int}{c n:Int}(h:S c=some n)(l:List Int)(a g:Int)(f:Bool)(hl:¬a<n):guessF S (c::l) (a,g,f)=guessF S l (a,g,f):=by rw[guessF,h];simp only;rw[if_neg hl]
theorem jw5{S:Int→Option Int}{c n:Int}(h:S c=some n)(l:List Int)(a g:Int)(f:Bool)(hl:a<n):guessF S (c::l) (a,g,f)=guessF S l (n,c,true):=by rw[guessF,h];simp only;rw[if_pos hl]
def ccells(l:List Int):List Value:=l.map fun c=>Value.int .i64 c
def GuPost(r:Int×Int×Bool)(w:World)(e:Ending)(w':World):Prop:=e=.returned (.tuple #[.int .i64 r.2.1,.bool r.2.2])∧Below w.heap.size w w'
set_option maxRecDepth 100000 in
theorem qk6(b:ByteArray)(v:Value)(l:List Int)(w:World)(hT:TW w)(hb:b.size≤1048576)(hrow:Row w v l.length (ccells l))(hl:l.length≤1073741824):
 Calls Tryz.prog 110 #[.string b,v] w (GuPost (guessR (bl b) l) w):=by
 have k1:=fun c w hT=>qf9 c b w hT hb
 obtain⟨R,hR⟩:∃R,R=guessR (bl b) l:=⟨_,rfl⟩;rw[←hR];unfold guessR at hR;obtain⟨S,hS⟩:∃S:Int→Option Int,S=fun c=>scoreR c (bl b):=⟨_,rfl⟩
 rw[←hS]at hR;have k2:∀c w,TW w→Calls Tryz.prog 109 #[.int .i64 c,.string b] w (ScPost (S c) w):=by rw[hS];exact k1
 obtain⟨n,hn⟩:∃n,n=l.length:=⟨_,rfl⟩;rw[←hn]at hrow hl;have hrow2:=hrow;obtain⟨a,cap,rfl,_⟩:=hrow2;have K2:=Lib.hid k2;have HR:=Lib.hid hR;have HT:=Lib.hid hT;have HROW:=Lib.hid hrow;have HN:=Lib.hid hn;clear k2 hR hT hrow hn;clear k1 hS
 go_enter Tryz.func110,Tryz.ntmps110
 go_wp2
 go_loopw [15,6,7,8] (fun iv bv fv gv wr=>∃(i:Nat) (best g:Int) (f:Bool),iv=.int .i64 (i:Int)∧bv=.int .i64 best∧fv=.bool f∧gv=.int .i64 g∧i≤n∧Hid (guessF S (l.drop i) (best,g,f)=R)∧Below w.heap.size w wr) (fun iv _ _ _ _=>n-(intOf iv).toNat)
 case atStart=>exact⟨0,0,0,false,rfl,rfl,rfl,rfl,Nat.zero_le _,Lib.hid (by rw[List.drop_zero];exact HR.out.symm),Below.refl _ _⟩
 case round=>
  obtain⟨i,best,g,f,rfl,rfl,rfl,rfl,hi,hG,hbel⟩:=hrel;by_cases hlt:i<n
  · obtain⟨c,hc⟩:=jb6 l i (by rw[←HN.out];exact hlt)
    obtain⟨gb,o,cap',he,hcell⟩:=row_at (HROW.out.keep hbel) i (.int .i64 c) (by unfold ccells;rw[List.getElem?_map,hc];rfl);simp only[Value.slice.injEq]at he;obtain⟨rfl,_,rfl⟩:=he;have hd:=jd1 l i (List.getElem?_eq_some_iff.1 hc).1;rw[(List.getElem?_eq_some_iff.1 hc).2]at hd;have e1:=hG.out;rw[hd]at e1;cases hs:S c with
    | none=>
     have k3:∀w,TW w→Calls Tryz.prog 109 #[.int .i64 c,.string b] w fun e w'=>e=.returned (.tuple #[.int .i64 0,.bool false])∧Below w.heap.size w w':=by
      intro w hT;have:=K2.out c w hT;rw[hs]at this;exact this
     rw[jw4 hs]at e1;have K3:=Lib.hid k3;have E1:=Lib.hid e1;clear k3 e1;clear hs hc hd hG
     go_wp2_with (go_at_call 109;refine(K3.out _ (HT.out.bel hbel)).mono ?_;rintro e w1 ⟨rfl,hb1⟩)
     go_roundw
     case rel=>exact⟨i+1,best,g,f,by go_num,rfl,rfl,rfl,by omega,E1,bt hbel hb1⟩
     case measure=>simp[intOf];omega
    | some m=>
     have k3:∀w,TW w→Calls Tryz.prog 109 #[.int .i64 c,.string b] w fun e w'=>e=.returned (.tuple #[.int .i64 m,.bool true])∧Below w.heap.size w w':=by
      intro w hT;have:=K2.out c w hT;rw[hs]at this;exact this
     by_cases hm:best<m
     · rw[jw5 hs _ _ _ _ hm]at e1
       have hmB:decide (best<m)=true:=by simpa using hm
       have K3:=Lib.hid k3;have E1:=Lib.hid e1;clear k3 e1;clear hs hc hd hG
       go_wp2_with (go_at_call 109;refine(K3.out _ (HT.out.bel hbel)).mono ?_;rintro e w1 ⟨rfl,hb1⟩)
       go_roundw
       case rel=>exact⟨i+1,m,c,true,by go_num,rfl,rfl,rfl,by omega,E1,bt hbel hb1⟩
       case measure=>simp[intOf];omega
     · rw[jf8 hs _ _ _ _ hm]at e1
       have hmB:decide (best<m)=false:=by simpa using hm
       have K3:=Lib.hid k3;have E1:=Lib.hid e1;clear k3 e1;clear hs hc hd hG
       go_wp2_with (go_at_call 109;refine(K3.out _ (HT.out.bel hbel)).mono ?_;rintro e w1 ⟨rfl,hb1⟩)
       go_roundw
       case rel=>exact⟨i+1,best,g,f,by go_num,rfl,rfl,rfl,by omega,E1,bt hbel hb1⟩
       case measure=>simp[intOf];omega
  · have hin:i=n:=by omega
    subst hin;have e1:=hG.out;rw[List.drop_of_length_le (by rw[←HN.out];exact Nat.le_refl _),guessF]at e1;have E1:=Lib.hid e1;clear e1;clear hG
    go_wp2
    refine bodyPost_ret (v:=.tuple #[.int .i64 g,.bool f]) (by simp[results,Tryz.results110,go_sem]) rfl ?_;exact(show GuPost _ _ _ _ from⟨by rw[←E1.out],hbel⟩)
def orderL:List Int:=[4,6,5,1,2,3,0]
theorem qh3(w:World):Calls Tryz.prog 111 #[] w fun e w'=>∃v,e=.returned v∧Row w' v 7 (ccells orderL)∧Below w.heap.size w w':=by
 go_enter Tryz.func111,Tryz.ntmps111
 go_wp2
 go_ret
 exact⟨_,rfl,row_lits w #[.int .i64 4,.int .i64 6,.int .i64 5,.int .i64 1,.int .i64 2,.int .i64 3,.int .i64 0] 28,bal (Below.refl _ _) _⟩
def mostF(S:Int→Option Int):List Int→Int→Int
 | [],m=>m
 | c::l,m=>match S c with
  | some n=>if m<n then mostF S l n else mostF S l m
  | none=>mostF S l m
def firstF(S:Int→Option Int):List Int→Int→Int
 | [],_=>-1
 | c::l,m=>if S c=some m then c else firstF S l m
def guess10M(S:Int→Option Int)(l:List Int):Int:=if mostF S l 0=0 then -1 else firstF S l (mostF S l 0)
theorem km5{S:Int→Option Int}{c:Int}(h:S c=none)(l:List Int)(m:Int):mostF S (c::l) m=mostF S l m:=by rw[mostF,h]
theorem km7{S:Int→Option Int}{c n:Int}(h:S c=some n)(l:List Int)(m:Int)(hl:¬m<n):mostF S (c::l) m=mostF S l m:=by rw[mostF,h];simp only;rw[if_neg hl]
theorem km6{S:Int→Option Int}{c n:Int}(h:S c=some n)(l:List Int)(m:Int)(hl:m<n):mostF S (c::l) m=mostF S l n:=by rw[mostF,h];simp only;rw[if_pos hl]
theorem xb0(S:Int→Option Int):∀(l:List Int) (a:Int),a≤mostF S l a:=by
 intro l
 induction l with
 | nil=>intro a;exact Int.le_refl _
 | cons c l ih=>
  intro a;cases h:S c with
  | none=>rw[km5 h];exact ih a
  | some n=>
   by_cases hl:a<n
   · rw[km6 h _ _ hl];exact Int.le_trans (by omega) (ih n)
   · rw[km7 h _ _ hl];exact ih a
theorem xd6(S:Int→Option Int):∀(l:List Int) (a g:Int) (f:Bool),guessF S l (a,g,f)=(mostF S l a,if mostF S l a=a then g else firstF S l (mostF S l a),f || !decide (mostF S l a=a)):=by
 intro l
 induction l with
 | nil=>intro a g f;simp[guessF,mostF]
 | cons c l ih=>
  intro a g f;cases h:S c with
  | none=>
   rw[jw4 h,ih,km5 h,firstF,h,if_neg (show ¬(none:Option Int)=some (mostF S l a) from by simp)]
  | some n=>
   by_cases hl:a<n
   · have hg:=xb0 S l n
     rw[jw5 h _ _ _ _ hl,ih,km6 h _ _ hl,firstF,h];rw[if_neg (show ¬mostF S l n=a from by omega),decide_eq_false (show ¬mostF S l n=a from by omega)];by_cases he:mostF S l n=n
     · rw[if_pos he,if_pos (by rw[he])];simp
     · rw[if_neg he,if_neg (by intro h';exact he (Option.some.inj h').symm)];simp
   · have hg:=xb0 S l a
     rw[jf8 h _ _ _ _ hl,ih,km7 h _ _ hl,firstF,h];by_cases he:mostF S l a=a
     · rw[if_pos he,if_pos he]
     · rw[if_neg he,if_neg he,if_neg (by intro h';have:=Option.some.inj h';omega)]
theorem xf9(S:Int→Option Int):∀(l:List Int) (a:Int),mostF S l a≠a→S (firstF S l (mostF S l a))=some (mostF S l a):=by
 intro l
 induction l with
 | nil=>intro a h;exact absurd rfl h
 | cons c l ih=>
  intro a hne;cases h:S c with
  | none=>rw[km5 h]at hne ⊢;rw[firstF,h,if_neg (by simp)];exact ih a hne
  | some n=>
   by_cases hl:a<n
   · rw[km6 h _ _ hl,firstF]
     by_cases he:S c=some (mostF S l n)
     · rw[if_pos he];exact he
     · rw[if_neg he]
       exact ih n (by intro h';rw[h']at he;exact he h)
   · rw[km7 h _ _ hl]at hne ⊢
     rw[firstF];by_cases he:S c=some (mostF S l a)
     · rw[if_pos he];exact he
     · rw[if_neg he];exact ih a hne
theorem vs5(c n:Int)(l:List UInt8)(h:scoreR c l=some n):0≤c∧c≤6:=by
 unfold scoreR at h;split at h
 · assumption
 · cases h
theorem guess_eq(b:List UInt8)(l:List Int):(guessR b l).2=(if 0≤guess10M (fun c=>scoreR c b) l then guess10M (fun c=>scoreR c b) l else 0,decide (0≤guess10M (fun c=>scoreR c b) l)) ∧ -1≤guess10M (fun c=>scoreR c b) l∧guess10M (fun c=>scoreR c b) l≤6:=by
 unfold guessR;rw[xd6];unfold guess10M;by_cases hz:mostF (fun c=>scoreR c b) l 0=0
 · rw[if_pos hz,hz];simp
 · have h1:=xf9 (fun c=>scoreR c b) l 0 hz
   obtain⟨h2,h3⟩:=vs5 _ _ _ h1;rw[if_neg hz,decide_eq_false hz];rw[if_neg hz,if_pos h2,decide_eq_true h2];exact⟨rfl,by omega,h3⟩
theorem qb7:∀c:Fin 10,∀s∈labL (c.val:Nat),(namesF.findIdx? fun x=>decide (x=s)).map (· / 3)=some c.val:=by decide +kernel
theorem lab_all:∀s∈namesF,s=⟨#[]⟩∨(List.range 10).any (fun(c:Nat)=>(labL (c:Int)).any fun x=>decide (x=s))=true:=by decide +kernel
theorem lab_ne:∀c:Fin 10,∀s∈labL (c.val:Nat),bl s ≠ []:=by decide +kernel
theorem ba_ext{a b:ByteArray}(h:bl a=bl b):a=b:=ByteArray.ext (Array.toList_inj.1 h)
theorem vt7(l:List UInt8):refNamed l=match namedM l with
 | some c=>(c:Int)
 | none=>-1:=by
 by_cases hex:∃c,c<10∧hasLab l c=true
 · obtain⟨c,hc,h⟩:=hex
   unfold hasLab at h;rw[List.any_eq_true]at h;obtain⟨x,hx,he⟩:=h;have he':smallL l=bl x:=by simpa using he
   have hxt:(⟨(smallL l).toArray⟩:ByteArray)=x:=by rw[he']
   have hne:l ≠ []:=by
    rintro rfl;exact lab_ne ⟨c,hc⟩ x hx he'.symm
   have hn:namedM l=some c:=by
    unfold namedM;rw[if_neg hne,hxt];exact qb7 ⟨c,hc⟩ x hx
   have hr:refNamed l=c:=by
    refine ref_hit l c hc (fun d hd=>?_) (by unfold hasLab;rw[List.any_eq_true];exact⟨x,hx,he⟩);cases hq:hasLab l d with
    | false=>rfl
    | true=>
     exfalso
     unfold hasLab at hq;rw[List.any_eq_true]at hq;obtain⟨y,hy,hey⟩:=hq;have hey':smallL l=bl y:=by simpa using hey
     have hxy:x=y:=ba_ext (he'.symm.trans hey');subst hxy;have h1:=qb7 ⟨c,hc⟩ x hx;have h2:=qb7 ⟨d,by omega⟩ x hy;rw[h1]at h2;simp only[Option.some.injEq]at h2;omega
   rw[hn,hr]
 · have hno:∀d,d<10→hasLab l d=false:=fun d hd=>by
    cases h:hasLab l d with
    | false=>rfl
    | true=>exact absurd ⟨d,hd,h⟩ hex
   have hn:namedM l=none:=by
    unfold namedM;split
    · rfl
    · rename_i hne
      rw[Option.map_eq_none_iff,List.findIdx?_eq_none_iff];intro s hs;simp only[decide_eq_false_iff_not];intro he;rcases lab_all s hs with h|h
      · rw[h]at he
        have h5:=congrArg (fun z:ByteArray=>(bl z).length) he;simp only[smallL,List.length_map]at h5;exact hne (List.eq_nil_of_length_eq_zero (by simpa[bl]using h5.symm))
      · rw[List.any_eq_true]at h
        obtain⟨c,hc,h⟩:=h;rw[List.any_eq_true]at h;obtain⟨x,hx,h⟩:=h;have hxs:x=s:=by simpa using h
        subst hxs;have:=hno c (by simpa using hc);unfold hasLab at this;rw[List.any_eq_false]at this;exact this x hx (by rw[he];simp)
   rw[hn,ref_miss l hno]
theorem vd4:∀(f:Nat) (l:List UInt8) (at_ n:Nat),Lib.validGoD f l=(scanF f l at_ n).2.isNone:=by
 intro f
 induction f with
 | zero=>intro l at_ n;rfl
 | succ f ih=>
  intro l at_ n;rw[Lib.validGoD,scanF];by_cases h:l = []
  · rw[if_pos h,if_pos h];rfl
  · rw[if_neg h,if_neg h,Lib.decodeL_N]
    have hp:=jg2 l;unfold badDec;show(if(dec l).1=65533∧(dec l).2=1 then false else Lib.validGoD f (l.drop (dec l).2))=_;by_cases hb:(dec l).1=65533∧(dec l).2=1
    · rw[if_pos hb,if_pos (by rw[Bool.and_eq_true,decide_eq_true_eq,decide_eq_true_eq];omega)];rfl
    · rw[if_neg hb,if_neg (by rw[Bool.and_eq_true,decide_eq_true_eq,decide_eq_true_eq];omega)]
      exact ih _ _ _
theorem kh8(s:ByteArray)(w:World)(hT:TW w)(hs:s.size≤9223372036854775807):
 Calls Tryz.prog 64 #[.string s] w fun e w'=>e=.returned (.bool (scanL (bl s)).2.isNone)∧Below w.heap.size w w':=by
 have k1:∀w,TW w→Calls Tryz.prog 98 #[.string s] w fun e w'=>e=.returned (.bool (scanL (bl s)).2.isNone)∧Below w.heap.size w w':=by
  intro w hT;have h:=Any.utf8_ValidString Tryz.laysValid s w hs hT.u8;have e:Lib.validD s.data.toList=(scanL (bl s)).2.isNone:=vd4 _ _ _ _;rw[e]at h;exact h
 generalize (scanL (bl s)).2.isNone=r at *;have K1:=Lib.hid k1;clear k1
 go_enter Tryz.func64,Tryz.ntmps64
 go_wp2_with (go_at_call 98;refine(K1.out _ hT).mono ?_;rintro e w1 ⟨rfl,hb1⟩)
 go_ret
 exact⟨rfl,hb1⟩
noncomputable def resM(b d:List UInt8)(fb:Int)(g:Bool):Int:=
 if(scanL b).2.isNone=true then 7 else if 0≤refNamed d then refNamed d
 else if g=true then(if 0≤guess10M (fun c=>scoreR c b) orderL then guess10M (fun c=>scoreR c b) orderL else fb)else fb
set_option maxRecDepth 100000 in
theorem qr2(b d:ByteArray)(z fb bu:Int)(g:Bool)(w:World)(hT:TW w)(hb:b.size≤1048576)(hd:d.size≤1048576):
 Calls Tryz.prog 103 #[.string b,.string d,.agg #[.int .i64 z,.int .i64 fb,.bool g,.int .i64 bu]] w fun e w'=>e=.returned (.int .i64 (resM (bl b) (bl d) fb g))∧Below w.heap.size w w':=by
 have hm:resM (bl b) (bl d) fb g=if(scanL (bl b)).2.isNone=true then 7 else if 0≤refNamed (bl d)then refNamed (bl d)
  else if g=true then(if 0≤guess10M (fun c=>scoreR c (bl b)) orderL then guess10M (fun c=>scoreR c (bl b)) orderL else fb)else fb:=rfl
 obtain⟨R,hR⟩:∃R,R=resM (bl b) (bl d) fb g:=⟨_,rfl⟩;rw[←hR]at hm ⊢;have k1:=fun w hT=>kh8 b w hT (by omega)
 have k2:=fun w=>qj1 d w (by omega)
 have k3:=fun w=>qh3 w
 have hg:=(guess_eq (bl b) orderL).1;have k4:∀v w,TW w→Row w v 7 (ccells orderL)→Calls Tryz.prog 110 #[.string b,v] w fun e w'=>e=.returned (.tuple #[.int .i64 (guessR (bl b) orderL).2.1,.bool (guessR (bl b) orderL).2.2])∧Below w.heap.size w w':=
  fun v w hT hr=>qk6 b v orderL w hT hb hr (by decide)
 rw[hg]at k4;simp only at k4;have hrn:=vt7 (bl d);generalize (scanL (bl b)).2.isNone=ok at *;generalize guess10M (fun c=>scoreR c (bl b)) orderL=G at *;generalize refNamed (bl d)=N at *;generalize namedM (bl d)=M at *;unfold NamedPost at k2;have hbA:=(Below.refl w.heap.size w).alloc (Nat.le_refl _) (.cells #[.int .i64 z,.int .i64 fb,.bool g,.int .i64 bu] 67);have hTA:=hT.bel hbA;have l1:=Live.fresh w #[.int .i64 z,.int .i64 fb,.bool g,.int .i64 bu] 67 1 _ rfl;have l2:=Live.fresh w #[.int .i64 z,.int .i64 fb,.bool g,.int .i64 bu] 67 2 _ rfl;have K1:=Lib.hid k1;have K2:=Lib.hid k2;have K3:=Lib.hid k3;have K4:=Lib.hid k4;have HM:=Lib.hid hm;have HRN:=Lib.hid hrn;have HBA:=Lib.hid hbA;have HTA:=Lib.hid hTA;have L1:=Lib.hid l1;have L2:=Lib.hid l2;clear k1 k2 k3 k4 hm hrn hbA hTA l1 l2;clear hg hR;cases ok with
 | true=>
  have hm:=HM.out;rw[if_pos rfl]at hm;subst hm;clear HM
  go_enter Tryz.func103,Tryz.ntmps103
  go_wp2_with (go_at_call 64;refine(K1.out _ HTA.out).mono ?_;rintro e w1 ⟨rfl,hb1⟩)
  go_ret
  exact⟨rfl,HBA.out.trans (hb1.mono HBA.out.size)⟩
 | false=>
  have hm:=HM.out;rw[if_neg (by decide)]at hm;clear HM;have hrn:=HRN.out;clear HRN;cases M with
  | some c=>
   simp only at hrn;subst hrn;rw[if_pos (by omega)]at hm;subst hm;have K2':Hid (∀w,Calls Tryz.prog 122 #[.string d] w fun e w'=>e=.returned (.tuple #[.int .i64 (c:Int),.bool true])∧Below w.heap.size w w'):=K2;clear K2
   go_enter Tryz.func103,Tryz.ntmps103
   go_wp2_with (first
    | (go_at_call 64;refine(K1.out _ HTA.out).mono ?_;rintro e w1 ⟨rfl,hb1⟩)
    | (go_at_call 122;refine(K2'.out _).mono ?_;rintro e w2 ⟨rfl,hb2⟩))
   go_ret
   exact⟨rfl,HBA.out.trans ((bt hb1 hb2).mono HBA.out.size)⟩
  | none=>
   simp only at hrn;subst hrn;rw[if_neg (by decide)]at hm;have K2':Hid (∀w,Calls Tryz.prog 122 #[.string d] w fun e w'=>e=.returned (.tuple #[.int .i64 0,.bool false])∧Below w.heap.size w w'):=K2;clear K2;cases g with
   | false=>
    rw[if_neg (by decide)]at hm;subst hm
    go_enter Tryz.func103,Tryz.ntmps103
    go_wp2_with (first
     | (go_at_call 64;refine(K1.out _ HTA.out).mono ?_;rintro e w1 ⟨rfl,hb1⟩)
     | (go_at_call 122;refine(K2'.out _).mono ?_;rintro e w2 ⟨rfl,hb2⟩;have q1:=(L1.out.keep (bt hb1 hb2)).1;have q2:=(L2.out.keep (bt hb1 hb2)).1))
    go_ret
    exact⟨rfl,HBA.out.trans ((bt hb1 hb2).mono HBA.out.size)⟩
   | true=>
    rw[if_pos rfl]at hm;by_cases hG:0≤G
    · rw[if_pos hG]at hm
      subst hm;have K4':Hid (∀v w,TW w→Row w v 7 (ccells orderL)→Calls Tryz.prog 110 #[.string b,v] w fun e w'=>e=.returned (.tuple #[.int .i64 R,.bool true])∧Below w.heap.size w w'):=by
       have h:=K4.out;rw[if_pos hG,decide_eq_true hG]at h;exact h
      clear K4 hG
      go_enter Tryz.func103,Tryz.ntmps103
      go_wp2_with (first
       | (go_at_call 64;refine(K1.out _ HTA.out).mono ?_;rintro e w1 ⟨rfl,hb1⟩)
       | (go_at_call 122;refine(K2'.out _).mono ?_;rintro e w2 ⟨rfl,hb2⟩;have q1:=(L1.out.keep (bt hb1 hb2)).1;have q2:=(L2.out.keep (bt hb1 hb2)).1)
       | (go_at_call 111;refine(K3.out _).mono ?_;rintro e w3 ⟨v,rfl,hrow,hb3⟩)
       | (go_at_call 110;refine(K4'.out _ _ (HTA.out.bel (bt (bt hb1 hb2) hb3)) hrow).mono ?_;rintro e w4 ⟨rfl,hb4⟩))
      go_ret
      exact⟨rfl,HBA.out.trans ((bt (bt (bt hb1 hb2) hb3) hb4).mono HBA.out.size)⟩
    · rw[if_neg hG]at hm
      subst hm;have K4':Hid (∀v w,TW w→Row w v 7 (ccells orderL)→Calls Tryz.prog 110 #[.string b,v] w fun e w'=>e=.returned (.tuple #[.int .i64 0,.bool false])∧Below w.heap.size w w'):=by
       have h:=K4.out;rw[if_neg hG,decide_eq_false hG]at h;exact h
      clear K4 hG
      go_enter Tryz.func103,Tryz.ntmps103
      go_wp2_with (first
       | (go_at_call 64;refine(K1.out _ HTA.out).mono ?_;rintro e w1 ⟨rfl,hb1⟩)
       | (go_at_call 122;refine(K2'.out _).mono ?_;rintro e w2 ⟨rfl,hb2⟩;have q1:=(L1.out.keep (bt hb1 hb2)).1;have q2:=(L2.out.keep (bt hb1 hb2)).1)
       | (go_at_call 111;refine(K3.out _).mono ?_;rintro e w3 ⟨v,rfl,hrow,hb3⟩)
       | (go_at_call 110;refine(K4'.out _ _ (HTA.out.bel (bt (bt hb1 hb2) hb3)) hrow).mono ?_;rintro e w4 ⟨rfl,hb4⟩;have s1:=(L1.out.keep (bt (bt (bt hb1 hb2) hb3) hb4)).1))
      go_ret
      exact⟨rfl,HBA.out.trans ((bt (bt (bt hb1 hb2) hb3) hb4).mono HBA.out.size)⟩
theorem sc_ko:scoreR 1 [193,194]=some 8:=by decide +kernel
theorem sc_1:scoreR 1 [176,161]=some (-8):=by decide +kernel
theorem sc_2:scoreR 2 [176,161]=some (-8):=by decide +kernel
theorem sc_3:scoreR 3 [176,161]=some 0:=by decide +kernel
theorem sc_0:scoreR 0 [176,161]=some (-2):=by decide +kernel
theorem sc_6:scoreR 6 [176,161]=none:=by decide +kernel
theorem sc_5:scoreR 5 [176,161]=some 2:=by decide +kernel
theorem sc_4:scoreR 4 [176,161]=some 6:=by decide +kernel
theorem guess_ga:guessR [176,161] orderL=(6,4,true):=by
 have h4:=sc_4;have h6:=sc_6;have h5:=sc_5;have h1:=sc_1;have h2:=sc_2;have h3:=sc_3;have h0:=sc_0;unfold guessR orderL;obtain⟨S,hS⟩:∃S:Int→Option Int,S=fun c=>scoreR c [176,161]:=⟨_,rfl⟩
 rw[←hS];have e4:S 4=some 6:=by rw[hS];exact h4
 have e6:S 6=none:=by rw[hS];exact h6
 have e5:S 5=some 2:=by rw[hS];exact h5
 have e1:S 1=some (-8):=by rw[hS];exact h1
 have e2:S 2=some (-8):=by rw[hS];exact h2
 have e3:S 3=some 0:=by rw[hS];exact h3
 have e0:S 0=some (-2):=by rw[hS];exact h0
 rw[jw5 e4 _ _ _ _ (by decide),jw4 e6,jf8 e5 _ _ _ _ (by decide),jf8 e1 _ _ _ _ (by decide),jf8 e2 _ _ _ _ (by decide),jf8 e3 _ _ _ _ (by decide),jf8 e0 _ _ _ _ (by decide)]
 rfl
theorem qw4(w:World)(hT:TW w):Calls Tryz.prog 88 #[] w fun e w'=>e=.returned (.bool true)∧Below w.heap.size w w':=by
 have k1:∀w,TW w→Calls Tryz.prog 109 #[.int .i64 1,.string ⟨#[193,194]⟩] w fun e w'=>e=.returned (.tuple #[.int .i64 8,.bool true])∧Below w.heap.size w w':=fun w hT=>by
  have h:=qf9 1 ⟨#[193,194]⟩ w hT (by decide);rw[show bl ⟨#[193,194]⟩ = [193,194] from rfl,sc_ko]at h;exact h
 have k2:∀v w,TW w→Row w v 7 (ccells orderL)→Calls Tryz.prog 110 #[.string ⟨#[176,161]⟩,v] w fun e w'=>e=.returned (.tuple #[.int .i64 4,.bool true])∧Below w.heap.size w w':=fun v w hT hr=>by
  have h:=qk6 ⟨#[176,161]⟩ v orderL w hT (by decide) hr (by decide);rw[show bl ⟨#[176,161]⟩ = [176,161] from rfl,guess_ga]at h;exact h
 have k3:=fun w=>qh3 w
 have k4:=fun w hT=>qw5 w hT
 have K1:=Lib.hid k1;have K2:=Lib.hid k2;have K3:=Lib.hid k3;have K4:=Lib.hid k4;clear k1 k2 k3 k4
 go_enter Tryz.func88,Tryz.ntmps88
 go_wp2_with (first
  | (go_at_call 109;refine(K1.out _ hT).mono ?_;rintro e w1 ⟨rfl,hb1⟩)
  | (go_at_call 111;refine(K3.out _).mono ?_;rintro e w2 ⟨v,rfl,hr,hb2⟩)
  | (go_at_call 110;refine(K2.out _ _ (hT.bel (bt hb1 hb2)) hr).mono ?_;rintro e w3 ⟨rfl,hb3⟩)
  | (go_at_call 112;refine(K4.out _ (hT.bel (bt (bt hb1 hb2) hb3))).mono ?_;rintro e w4 ⟨rfl,hb4⟩))
 go_ret
 exact⟨rfl,bt (bt (bt hb1 hb2) hb3) hb4⟩
end Go.Proofs.YtagjkmkmphamoaaGreatDoor
