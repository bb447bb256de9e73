/- A3 -/
import Derived.Test.YtagjkmkmphamoaaGreatDoorPJo
import Derived.Test.YtagjkmkmphamoaaGreatDoorPWb
import Derived.Test.YtagjkmkmphamoaaGreatDoorPA2
import Derived.Test.YtagjkmkmphamoaaGreatDoorPPo
import Derived.Test.YtagjkmkmphamoaaGreatDoorPSk
import Derived.Test.YtagjkmkmphamoaaGreatDoorPWa
set_option linter.all false
set_option maxHeartbeats 8000000
namespace Go.Proofs.YtagjkmkmphamoaaGreatDoor
open Go.RowKit
noncomputable def signsM(c l s:Int):List UInt8:=
 if c=4 then(if(wSignM l s).2=true then(textM [(wSignM l s).1]).1 else [])
 else if c=5 then(if signJB (l*256+s)=true then(textM [signJ (l*256+s)]).1 else [])
 else(bSignsM l s).1
def SignsPost(r:List UInt8)(w:World)(e:Ending)(w':World):Prop:=e=.returned (.string ⟨r.toArray⟩)∧Below w.heap.size w w'
theorem vk7(c l s:Int)(w:World)(hT:TW w)(h0:0≤l)(h1:l≤255)(h2:0≤s)(h3:s≤255):
 Calls Tryz.prog 151 #[.int .i64 c,.int .u8 l,.int .u8 s] w (SignsPost (signsM c l s) w):=by
 have k1:=fun w hT=>kr2 l s w hT h0 h1 h2 h3
 have k2:=fun w=>qz0 l s w h0 h1 h2 h3
 have k3:=fun w=>kx0 l s w h0 h1 h2 h3
 have k4:=fun w p t=>kf7 _ [p] _ (qq5 w p t) (by simp)
 by_cases c4:c=4
 · subst c4
   have hm:signsM 4 l s=if(wSignM l s).2=true then(textM [(wSignM l s).1]).1 else []:=rfl
   rcases hp:wSignM l s with⟨p,b⟩
   rw[hp]at k1 hm;simp only at k1 hm;rw[hm];obtain⟨t,ht⟩:∃t,t=textM [p]:=⟨_,rfl⟩;have k4:=fun w t=>k4 w p t
   rw[←ht]at k4 ⊢;clear hm hp ht;have K1:=Lib.hid k1;have K4:=Lib.hid k4;clear k1 k4;clear k2 k3;cases b
   · go_enter Tryz.func151,Tryz.ntmps151
     go_wp2_with (go_at_call 165;refine(K1.out _ hT).mono ?_;rintro e w1 ⟨rfl,hb1⟩)
     refine bodyPost_ret (v:=.string ⟨#[]⟩) (by simp[results,Tryz.results151,go_sem]) rfl ?_;exact(show SignsPost _ _ _ _ from⟨rfl,hb1⟩)
   · go_enter Tryz.func151,Tryz.ntmps151
     go_wp2_with (first
      | (go_at_call 165;refine(K1.out _ hT).mono ?_;rintro e w1 ⟨rfl,hb1⟩)
      | (go_at_call 159;refine(K4.out _ _).mono ?_;rintro e w2 ⟨rfl,hb2⟩))
     refine bodyPost_ret (v:=.string ⟨t.1.toArray⟩) (by simp[results,Tryz.results151,go_sem]) rfl ?_;exact(show SignsPost _ _ _ _ from⟨rfl,bt (bal hb1 _) hb2⟩)
 · by_cases c5:c=5
   · subst c5
     have hm:signsM 5 l s=if signJB (l*256+s)=true then(textM [signJ (l*256+s)]).1 else []:=rfl
     rw[hm];generalize signJB (l*256+s)=b at *;generalize signJ (l*256+s)=p at *;obtain⟨t,ht⟩:∃t,t=textM [p]:=⟨_,rfl⟩;have k4:=fun w t=>k4 w p t
     rw[←ht]at k4 ⊢;clear hm ht;have K2:=Lib.hid k2;have K4:=Lib.hid k4;clear k2 k4;clear k1 k3;cases b
     · go_enter Tryz.func151,Tryz.ntmps151
       go_wp2_with (go_at_call 163;refine(K2.out _).mono ?_;rintro e w1 ⟨rfl,rfl⟩)
       refine bodyPost_ret (v:=.string ⟨#[]⟩) (by simp[results,Tryz.results151,go_sem]) rfl ?_;exact(show SignsPost _ _ _ _ from⟨rfl,Below.refl _ _⟩)
     · go_enter Tryz.func151,Tryz.ntmps151
       go_wp2_with (first
        | (go_at_call 163;refine(K2.out _).mono ?_;rintro e w1 ⟨rfl,rfl⟩)
        | (go_at_call 159;refine(K4.out _ _).mono ?_;rintro e w2 ⟨rfl,hb2⟩))
       refine bodyPost_ret (v:=.string ⟨t.1.toArray⟩) (by simp[results,Tryz.results151,go_sem]) rfl ?_;exact(show SignsPost _ _ _ _ from⟨rfl,bt (bal (Below.refl _ _) _) hb2⟩)
   · have hm:signsM c l s=(bSignsM l s).1:=by unfold signsM;rw[if_neg c4,if_neg c5]
     rw[hm];generalize bSignsM l s=R at *;have d4:(c==4)=false:=by simpa using c4
     have d5:(c==5)=false:=by simpa using c5
     have K3:=Lib.hid k3;clear k3;clear k1 k2 k4 hm
     go_enter Tryz.func151,Tryz.ntmps151
     go_wp2_with (go_at_call 167;refine(K3.out _).mono ?_;rintro e w1 ⟨rfl,hb1⟩)
     refine bodyPost_ret (v:=.string ⟨R.1.toArray⟩) (by simp[results,Tryz.results151,go_sem]) rfl ?_;exact(show SignsPost _ _ _ _ from⟨rfl,hb1⟩)
end Go.Proofs.YtagjkmkmphamoaaGreatDoor
namespace Go.Proofs.YtagjkmkmphamoaaGreatDoor
open Go.RowKit Go.Maps
def twoV(a b:UInt8):Value:=.agg #[.int .u8 (a.toNat:Int),.int .u8 (b.toNat:Int)]
noncomputable def toldV(c:Int)(a b:UInt8):Value:=.agg #[.string ⟨(signsM c a.toNat b.toNat).toArray⟩]
theorem twoV_inj{a b x y:UInt8}(h:twoV a b=twoV x y):a=x∧b=y:=by
 simp only[twoV,Value.agg.injEq,Array.mk.injEq,List.cons.injEq,Value.int.injEq,true_and,and_true]at h;exact⟨UInt8.toNat_inj.1 (by omega),UInt8.toNat_inj.1 (by omega)⟩
def Memo(c:Int)(w:World)(blk:Nat):Prop:=∃S,MapS Tryz.prog 211 w blk S∧∀u v,S u v→∀a b:UInt8,u=twoV a b→v=toldV c a b
theorem Memo.made(c:Int)(w:World):Memo c (w.alloc (.map #[] 0)) w.heap.size:=⟨_,MapS.made w _ _,fun _ _ h=>h.elim⟩
theorem Memo.lt{c:Int}{w:World}{b:Nat}(h:Memo c w b):b<w.heap.size:=h.elim fun _ h=>h.1.lt
theorem Memo.blk{c:Int}{w w':World}{b:Nat}(h:Memo c w b)(he:w'.heap[b]?=w.heap[b]?):Memo c w' b:=h.elim fun S h=>⟨S,h.1.blk he,h.2⟩
theorem Memo.bel{c:Int}{w w':World}{b:Nat}(h:Memo c w b)(hb:Below w.heap.size w w'):Memo c w' b:=h.blk (hb.block b h.lt)
theorem zeroTold(w:World):(zeroValue 213).run Tryz.prog w=.ok (.agg #[.string ⟨#[]⟩]) w:=by
 have hz:(Tryz.prog.info? 213).map (·.zero)=some (some (.agg #[.string ⟨#[]⟩])):=by kernel_rfl
 cases hq:Tryz.prog.info? 213 with
 | none=>simp[hq]at hz
 | some ii=>
  have:ii.zero=some (.agg #[.string ⟨#[]⟩]):=by simpa[hq]using hz
  simp[zeroValue,typeInfo,hq,this]
section
variable {ops:Array Oper} {rest:List Oper} {o:Oper} {a:Act} {Q:Exit→Act→World→Prop}
theorem jr3(w:World)(hg:o.guard=none)(m x:Operand)(hop:o.op=Op.lookup 210 m x true)(c:Int)(blk:Nat)(p q:UInt8)(hm:a.eval m=.map (some blk))
 (hS:Memo c w blk) (hx:a.eval x=twoV p q) (t:ByteArray) (ht:Hid (t=⟨(signsM c p.toNat q.toNat).toArray⟩))
 (h0:wpList Tryz.prog ops Q rest (a.put o.dst (.tuple #[.agg #[.string ⟨#[]⟩],.bool false])) w)
 (h1:wpList Tryz.prog ops Q rest (a.put o.dst (.tuple #[.agg #[.string t],.bool true])) w):wpList Tryz.prog ops Q (o::rest) a w:=by
 obtain⟨S,hM,hS⟩:=hS;obtain⟨kl,hk⟩:=key2 p q;refine jk7 w hg m x _ hop 211 213 keyed2 Tryz.underlying210 _ (zeroTold w) blk S hm hM _ kl hx hk (fun _=>h0) ?_;intro v hv;rw[hS _ _ hv p q rfl,toldV,←ht.out];exact h1
theorem jr0(w:World)(hg:o.guard=none)(m x v:Operand)(hop:o.op=Op.mapUpdate 210 m x v)(c:Int)(blk:Nat)(p q:UInt8)(hm:a.eval m=.map (some blk))
 (hS:Memo c w blk) (hx:a.eval x=twoV p q) (hv:a.eval v=toldV c p q)
 (h:∀w',Memo c w' blk→w.grownBy w' (some blk)→wpList Tryz.prog ops Q rest (a.put o.dst undef) w'):wpList Tryz.prog ops Q (o::rest) a w:=by
 obtain⟨S,hM,hS⟩:=hS;obtain⟨kl,hk⟩:=key2 p q;refine jp6 w hg m x v _ hop 211 213 keyed2 Tryz.underlying210 blk S hm hM _ _ kl hx hv hk ?_;intro w' hM' hg';refine h w' ⟨_,hM',?_⟩ hg';rintro u z (⟨rfl,rfl⟩|⟨_,hs⟩) x y e
 · obtain⟨rfl,rfl⟩:=twoV_inj e
   rfl
 · exact hS _ _ hs x y e
end
end Go.Proofs.YtagjkmkmphamoaaGreatDoor
namespace Go.Proofs.YtagjkmkmphamoaaGreatDoor
open Go.RowKit
noncomputable def tok2(c:Int):Tok:=tokD fun x y=>signsM c x.toNat y.toNat
theorem Live.blk{w w':World}{b o:Nat}{v:Value}(h:Live w b o v)(he:w'.heap[b]?=w.heap[b]?):Live w' b o v:=by
 unfold Live World.cell? World.frozen? at *;rw[he];exact h
theorem vc1:∀l:List Int,(l.flatMap encR).length≤4*l.length
 | []=>by simp
 | p::l=>by
  have h1:=(jj2 p).2;have h2:=vc1 l;rw[List.flatMap_cons,List.length_append,List.length_cons];omega
theorem qf3(l:List Int):(textM l).1.length≤4*l.length:=by
 unfold textM;split
 · exact vc1 l
 · simp
theorem vq6:∀(l:List (Int×Int×Int)) (a b:Int),(twosL l a b).1.length≤8:=by
 intro l
 induction l with
 | nil=>intro a b;simp[twosL]
 | cons s l ih=>
  intro a b;unfold twosL;split
  · have:=qf3 [s.2.1,s.2.2];simp only[List.length_cons,List.length_nil]at this;omega
  · exact ih a b
theorem qf7(c:Int)(x y:UInt8):(signsM c x.toNat y.toNat).length≤8:=by
 have h1:=fun p=>qf3 [p]
 simp only[List.length_cons,List.length_nil]at h1;unfold signsM;split
 · split
   · have:=h1 (wSignM x.toNat y.toNat).1;omega
   · simp
 · split
   · split
     · have:=h1 (signJ (x.toNat*256+y.toNat));omega
     · simp
   · unfold bSignsM
     split
     · have:=h1 (oneM x.toNat y.toNat).1;omega
     · have:=vq6 bTwos x.toNat y.toNat;omega
set_option maxRecDepth 100000 in
theorem qd0(c:Int)(b:ByteArray)(w:World)(hT:TW w)(hb:b.size≤1073741824):
 Calls Tryz.prog 125 #[.int .i64 c,.string b] w (DecPost (decT (tok2 c) (bl b)) w):=by
 have HBL:Hid ((bl b).length=b.size):=jb1 b;obtain⟨R,hR⟩:∃R,R=decT (tok2 c) (bl b):=⟨_,rfl⟩;rw[←hR];obtain⟨W,hW⟩:∃W,W=w.alloc (.cells #[.int .i64 0,.int .i64 0] 54):=⟨_,rfl⟩;have s1:W.heap.size=w.heap.size+1:=by rw[hW];exact World.size_alloc _ _
 have m0:Live (W.alloc (.map #[] 0)) w.heap.size 0 (.int .i64 0):=by rw[hW];exact(Live.fresh _ _ _ 0 _ rfl).alloc _
 have m1:Live (W.alloc (.map #[] 0)) w.heap.size 1 (.int .i64 0):=by rw[hW];exact(Live.fresh _ _ _ 1 _ rfl).alloc _
 have hM0:Memo c (W.alloc (.map #[] 0)) (w.heap.size+1):=by rw[←s1];exact Memo.made c W
 have hb0:Below w.heap.size w (W.alloc (.map #[] 0)):=by rw[hW];exact bal (bal (Below.refl _ _) _) _
 have hs0:(W.alloc (.map #[] 0)).heap.size=w.heap.size+2:=by rw[World.size_alloc,s1]
 have HR:=Lib.hid hR;have HT:=Lib.hid hT;have M0:=Lib.hid m0;have M1:=Lib.hid m1;have HM0:=Lib.hid hM0;have HB0:=Lib.hid hb0;have HS0:=Lib.hid hs0;clear hR hT m0 m1 hM0 hb0 hs0
 go_enter Tryz.func125,Tryz.ntmps125
 go_wp2_with (refine jp8 rfl _ rfl _ ?_)
 rw[←hW];generalize W.alloc (.map #[] 0)=W0 at *
 go_loopw [7,8] (fun v at_ wr=>∃(f k:Nat) (acc:List UInt8),at_=.int .i64 (k:Int)∧Hid (Own wr (w.heap.size+2) v acc)∧k≤b.size∧acc.length≤1024*k∧b.size-k≤f∧Hid (runT (tok2 c) f ((bl b).drop k) k acc=R) ∧
  Hid (Memo c wr (w.heap.size+1))∧Hid (Live wr w.heap.size 0 (.int .i64 0))∧Hid (Live wr w.heap.size 1 (.int .i64 0))∧Hid (w.heap.size+2≤wr.heap.size)∧Hid (Below w.heap.size w wr)) (fun _ at_ _=>b.size-(intOf at_).toNat)
 case atStart=>exact⟨b.size,0,[],rfl,Lib.hid (Own.nil _ _),Nat.zero_le _,by simp,by omega,Lib.hid (by have:=HR.out;unfold decT at this;rw[HBL.out]at this;rw[List.drop_zero];exact this.symm),HM0,M0,M1,Lib.hid (Nat.le_of_eq HS0.out.symm),HB0⟩
 case round=>
  obtain⟨f,k,acc,rfl,hown,hk,ha,hf,hRT,hMe,hn0,hn1,hsz,hbel⟩:=hrel;by_cases hlt:k<b.size
  · obtain⟨f,rfl⟩:∃g,f=g+1:=⟨f-1,by omega⟩
    have hne:(bl b).drop k ≠ []:=js4 (by rw[HBL.out];exact hlt);obtain⟨x,hx⟩:=jb6 (bl b) k (by rw[HBL.out];exact hlt);have X:∀h,b[k]'h=x:=jc7 b k x hx;have hxl:=x.toNat_lt;have hd:=jd1 (bl b) k (List.getElem?_eq_some_iff.1 hx).1;rw[(List.getElem?_eq_some_iff.1 hx).2]at hd;by_cases hx8:x.toNat<128
    · have hx8':x<128:=by rw[UInt8.lt_iff_toNat_lt];exact hx8
      have ht:tok2 c ((bl b).drop k)=some ([x],1):=by
       rw[hd];unfold tok2;cases(bl b).drop (k+1)with
       | nil=>simp[tokD,hx8']
       | cons y l=>simp[tokD,hx8']
      have e1:=jf3 (tok:=tok2 c) f _ k acc _ _ hne ht;rw[hRT.out,List.drop_drop]at e1;have E1:=Lib.hid e1;clear e1;clear ht hne hx hd
      go_wp2_with (at_builtin;(refine qp6 rfl _ _ rfl wr (w.heap.size+2) u7 acc x rfl hown.out rfl (by omega) hsz.out ?_;intro v' w4 hown4 hb4))
      have r1:=Lib.hid hown4;have r2:=Lib.hid (hMe.out.blk (hb4.block _ (by omega)));have hbb:Below (w.heap.size+1) wr w4:=hb4.mono (by omega);have q0:w4.heap[w.heap.size]?=wr.heap[w.heap.size]?:=hb4.block _ (by omega);have r3:Live w4 w.heap.size 0 (.int .i64 0):=by
       have:=hn0.out;unfold Live World.cell? World.frozen? at *;rw[q0];exact this
      have r4:Live w4 w.heap.size 1 (.int .i64 0):=by
       have:=hn1.out;unfold Live World.cell? World.frozen? at *;rw[q0];exact this
      have r5:=Nat.le_trans hsz.out hb4.size;have r6:=hbel.out.trans (hb4.mono (by omega));exact⟨⟨f,k+1,acc ++ [x],by go_num,r1,by omega,by rw[List.length_append];simp;omega,by omega,Lib.hid E1.out.symm,r2,Lib.hid r3,Lib.hid r4,Lib.hid r5,Lib.hid r6⟩,by simp[intOf];omega⟩
    · have hx8':¬x<128:=by rw[UInt8.lt_iff_toNat_lt];exact hx8
      by_cases hk2:k+1<b.size
      · obtain⟨y,hy⟩:=jb6 (bl b) (k+1) (by rw[HBL.out];exact hk2)
        have Y:∀h,b[k+1]'h=y:=jc7 b (k+1) y hy;have hyl:=y.toNat_lt;have hd2:=jd1 (bl b) (k+1) (List.getElem?_eq_some_iff.1 hy).1;rw[(List.getElem?_eq_some_iff.1 hy).2]at hd2;have ht:tok2 c ((bl b).drop k)=if signsM c x.toNat y.toNat = []then none else some (signsM c x.toNat y.toNat,2):=by
         rw[hd,hd2];unfold tok2;simp[tokD,hx8']
        have kS:=fun w hT=>vk7 c x.toNat y.toNat w hT (by omega) (by omega) (by omega) (by omega)
        have hsub:IntKind.i64.wrap ((b.size:Int)-(k:Int))=(b.size:Int)-(k:Int):=jf2 _ (by omega) (by omega);have hs2:¬((b.size:Int)-(k:Int)<2):=by omega
        have hk1:IntKind.i64.wrap ((k:Int)+1)=(k:Int)+1:=jf2 _ (by omega) (by omega);have hk1n:((k:Int)+1).toNat=k+1:=by omega
        have hk10:(0:Int)≤(k:Int)+1:=by omega
        have HTK:=Lib.hid ht;have KS:=Lib.hid kS;clear ht kS;clear hx hd hy hd2 hne
        go_wp2_with fail
        obtain⟨tb,htb⟩:∃tb:ByteArray,tb=⟨(signsM c x.toNat y.toNat).toArray⟩:=⟨_,rfl⟩;have hbt:bl tb=signsM c x.toNat y.toNat:=by rw[htb]
        have hfv:toldV c x y=.agg #[.string tb]:=by rw[htb];rfl
        have hKS:∀w,TW w→Calls Tryz.prog 151 #[.int .i64 c,.int .u8 (x.toNat:Int),.int .u8 (y.toNat:Int)] w (fun e w'=>e=.returned (.string tb)∧Below w.heap.size w w'):=by rw[htb];exact KS.out
        have htl:tb.size≤1024:=by have:=qf7 c x y;rw[←jb1,hbt];exact Nat.le_trans this (by decide)
        obtain⟨W1,hW1⟩:∃W1,W1=(wr.alloc (.cells #[.int .u8 (x.toNat:Int),.int .u8 (y.toNat:Int)] 211)).drew:=⟨_,rfl⟩;have hb1:Below wr.heap.size wr W1:=by rw[hW1];exact(bal (Below.refl _ _) _).drew
        have q0:Live W1 wr.heap.size 0 (.int .u8 (x.toNat:Int)):=by rw[hW1];exact(Live.fresh _ _ _ 0 _ rfl).drew
        have q1:Live W1 wr.heap.size 1 (.int .u8 (y.toNat:Int)):=by rw[hW1];exact(Live.fresh _ _ _ 1 _ rfl).drew
        have hM1:=hMe.out.bel hb1;have o1:=hown.out.bel hb1;have a0:=hn0.out.keep hb1;have a3:=hn1.out.keep hb1;have z1:=a0.lt;have z2:=q0.lt;have hbw:=hbel.out.trans (hb1.mono hbel.out.size);have hz1:=Nat.le_trans hsz.out hb1.size;have hT1:=HT.out.bel hbw;have HTB:=Lib.hid htb;have HBT:=Lib.hid hbt;have HM1:=Lib.hid hM1;have O1:=Lib.hid o1;have HBW:=Lib.hid hbw;have HT1:=Lib.hid hT1;have HB1:=Lib.hid hb1;have HZ1:=Lib.hid hz1;have HFV:=Lib.hid hfv;have HKS:=Lib.hid hKS;have A0:=Lib.hid a0;have A3:=Lib.hid a3;have Q0:=Lib.hid q0;have Q1:=Lib.hid q1;clear htb hbt hM1 o1 hbw hT1 hb1 hz1 hfv hKS a0 a3 q0 q1;clear KS
        go_region
        rw[←hW1];clear hW1;obtain⟨a1,a2⟩:=A0.out;obtain⟨a3,a4⟩:=A3.out;obtain⟨p0,_⟩:=Q0.out;obtain⟨p1,_⟩:=Q1.out;by_cases hsn:bl tb = []
        · have hse:tb.toList.isEmpty=true:=by rw[ByteArray.toList_eq];simpa using hsn
          have ht2:tok2 c ((bl b).drop k)=none:=by rw[HTK.out,if_pos (by rw[←HBT.out];exact hsn)]
          have e1:=jh1 (tok:=tok2 c) f _ k acc (js4 (by rw[HBL.out];exact hlt)) ht2;rw[hRT.out]at e1;have E1:=Lib.hid e1;have HSN:=Lib.hid hsn;clear e1 hsn;clear ht2
          go_wp2_with (at_lookup;refine jr3 W1 rfl _ _ rfl c (w.heap.size+1) x y rfl HM1.out rfl tb HTB ?_ ?_)
          · refine(HKS.out _ (HT1.out.alloc _)).mono ?_
            rintro e w3 ⟨rfl,hb3⟩;have hb13:=bt (bal (Below.refl W1.heap.size W1) (.cells #[.string ⟨#[]⟩] 213)) hb3;obtain⟨c0,c0'⟩:=(Live.fresh W1 #[.string ⟨#[]⟩] 213 0 _ rfl).keep hb3;obtain⟨d0,_⟩:=Q0.out.keep hb13;obtain⟨d1,_⟩:=Q1.out.keep hb13;have z3:=jd2 c0;have hz1:=HZ1.out;have hM4:Memo c (w3.setCell ⟨W1.heap.size,0,none⟩ (.string tb)) (w.heap.size+1):=(HM1.out.bel hb13).blk (Below.heap_setCell _ _ _ _ (by simp only;omega));have hX:∀w5,(w3.setCell ⟨W1.heap.size,0,none⟩ (.string tb)).grownBy w5 (some (w.heap.size+1)) →
             (∀j,j<W1.heap.size→j≠w.heap.size+1→w5.heap[j]?=W1.heap[j]?)∧w5.cell? ⟨W1.heap.size,0,none⟩=some (.string tb)∧Below w.heap.size w w5∧W1.heap.size<w5.heap.size:=by
             intro w5 hg;have hne:∀j,j<W1.heap.size→(w3.setCell ⟨W1.heap.size,0,none⟩ (.string tb)).heap[j]?=W1.heap[j]?:=fun j hj=>(Below.heap_setCell _ _ _ _ (Nat.ne_of_lt hj)).trans (hb13.block j hj)
             have hsz3:(w3.setCell ⟨W1.heap.size,0,none⟩ (.string tb)).heap.size=w3.heap.size:=World.size_setCell _ _ _;refine⟨fun j hj h1=>(hg.block j (by omega) (fun e=>h1 (Option.some.inj e))).trans (hne j hj),?_,?_,?_⟩
             · exact hg.cell (World.cell?_setCell_same _ _ _ c0) (fun e=>absurd (Option.some.inj e) (by simp only;omega))
             · exact((HBW.out.trans (hb13.mono HBW.out.size)).setCell (p:=⟨W1.heap.size,0,none⟩) (Nat.le_of_lt z1) _).grown hg (by omega) (by intro q hq;cases hq;omega)
             · have:=hg.size;omega
            have HM4:=Lib.hid hM4;have HX:=Lib.hid hX;have HB13:=Lib.hid hb13;have HZ1':=Lib.hid hz1;clear hM4 hX hb13 hz1;clear hb3
            go_wp2_with (at_mapUpdate;(refine jr0 _ rfl _ _ _ rfl c (w.heap.size+1) x y rfl HM4.out rfl HFV.out.symm ?_;intro w5 hM5 hg5;obtain⟨hk5,s5,hbw5,z5⟩:=HX.out w5 hg5;have hl0:Live w5 w.heap.size 0 (.int .i64 0):=(A0.out.blk (hk5 _ z1 (by omega)));have hl1:Live w5 w.heap.size 1 (.int .i64 0):=(A3.out.blk (hk5 _ z1 (by omega)));obtain⟨l1,l2⟩:=hl0;obtain⟨l3,l4⟩:=hl1))
            refine bodyPost_ret (v:=.tuple #[.string ⟨#[]⟩,.agg #[.int .i64 2,.int .i64 k]]) (by simp[results,Tryz.results125,go_sem,l1,l2,l3,l4]) rfl ?_;refine(show DecPost _ _ _ _ from⟨?_,?_⟩)
            · rw[E1.out];rfl
            · exact(hbw5.setCell (Nat.le_refl _) _).setCell (Nat.le_refl _) _
          · skip
            refine bodyPost_ret (v:=.tuple #[.string ⟨#[]⟩,.agg #[.int .i64 2,.int .i64 k]]) (by simp[results,Tryz.results125,go_sem,a1,a2,a3,a4,z1]) rfl ?_;refine(show DecPost _ _ _ _ from⟨?_,?_⟩)
            · rw[E1.out];rfl
            · exact((HBW.out.setCell (Nat.le_refl _) _).setCell (Nat.le_refl _) _).alloc (by simp;omega) _
        · have hse:tb.toList.isEmpty=false:=by rw[ByteArray.toList_eq];simpa using hsn
          have ht2:tok2 c ((bl b).drop k)=some (bl tb,2):=by rw[HTK.out,if_neg (by rw[←HBT.out];exact hsn),HBT.out]
          have e1:=jf3 (tok:=tok2 c) f _ k acc _ _ (js4 (by rw[HBL.out];exact hlt)) ht2;rw[hRT.out,List.drop_drop]at e1;have E1:=Lib.hid e1;have HSN:=Lib.hid hsn;clear e1 hsn;clear ht2;have hfin:∀(W5 w6:World) (v':Value),Memo c W5 (w.heap.size+1)→Live W5 w.heap.size 0 (.int .i64 0)→Live W5 w.heap.size 1 (.int .i64 0)→Below w.heap.size w W5→w.heap.size+2≤W5.heap.size→Own w6 (w.heap.size+2) v' (acc++bl tb)→Below (w.heap.size+2) W5 w6 →
           Memo c w6 (w.heap.size+1)∧Live w6 w.heap.size 0 (.int .i64 0)∧Live w6 w.heap.size 1 (.int .i64 0)∧w.heap.size+2≤w6.heap.size∧Below w.heap.size w w6:=by
           intro W5 w6 v' h1 h2 h3 h4 h5 h6 h7;have q0:w6.heap[w.heap.size]?=W5.heap[w.heap.size]?:=h7.block _ (by omega);exact⟨h1.blk (h7.block _ (by omega)),h2.blk q0,h3.blk q0,Nat.le_trans h5 h7.size,h4.trans (h7.mono (by omega))⟩
          have HFIN:=Lib.hid hfin;clear hfin
          go_wp2_with (first
           | (at_lookup;refine jr3 W1 rfl _ _ rfl c (w.heap.size+1) x y rfl HM1.out rfl tb HTB ?_ ?_)
           | (at_builtin;(refine kd2 rfl _ _ rfl (W1.alloc (.cells #[.string tb] 213)) (w.heap.size+2) u7 acc tb rfl (O1.out.alloc _) rfl (by omega) (Nat.le_trans HZ1.out (by simp)) ?_;intro v' w6 hown6 hb6)))
          · refine(HKS.out _ (HT1.out.alloc _)).mono ?_
            rintro e w3 ⟨rfl,hb3⟩;have hb13:=bt (bal (Below.refl W1.heap.size W1) (.cells #[.string ⟨#[]⟩] 213)) hb3;obtain⟨c0,c0'⟩:=(Live.fresh W1 #[.string ⟨#[]⟩] 213 0 _ rfl).keep hb3;obtain⟨d0,_⟩:=Q0.out.keep hb13;obtain⟨d1,_⟩:=Q1.out.keep hb13;have z3:=jd2 c0;have hz1:=HZ1.out;have hM4:Memo c (w3.setCell ⟨W1.heap.size,0,none⟩ (.string tb)) (w.heap.size+1):=(HM1.out.bel hb13).blk (Below.heap_setCell _ _ _ _ (by simp only;omega));have hX:∀w5,(w3.setCell ⟨W1.heap.size,0,none⟩ (.string tb)).grownBy w5 (some (w.heap.size+1)) →
             (∀j,j<W1.heap.size→j≠w.heap.size+1→w5.heap[j]?=W1.heap[j]?)∧w5.cell? ⟨W1.heap.size,0,none⟩=some (.string tb)∧Below w.heap.size w w5∧W1.heap.size<w5.heap.size:=by
             intro w5 hg;have hne:∀j,j<W1.heap.size→(w3.setCell ⟨W1.heap.size,0,none⟩ (.string tb)).heap[j]?=W1.heap[j]?:=fun j hj=>(Below.heap_setCell _ _ _ _ (Nat.ne_of_lt hj)).trans (hb13.block j hj)
             have hsz3:(w3.setCell ⟨W1.heap.size,0,none⟩ (.string tb)).heap.size=w3.heap.size:=World.size_setCell _ _ _;refine⟨fun j hj h1=>(hg.block j (by omega) (fun e=>h1 (Option.some.inj e))).trans (hne j hj),?_,?_,?_⟩
             · exact hg.cell (World.cell?_setCell_same _ _ _ c0) (fun e=>absurd (Option.some.inj e) (by simp only;omega))
             · exact((HBW.out.trans (hb13.mono HBW.out.size)).setCell (p:=⟨W1.heap.size,0,none⟩) (Nat.le_of_lt z1) _).grown hg (by omega) (by intro q hq;cases hq;omega)
             · have:=hg.size;omega
            have HM4:=Lib.hid hM4;have HX:=Lib.hid hX;have HB13:=Lib.hid hb13;have HZ1':=Lib.hid hz1;clear hM4 hX hb13 hz1;clear hb3
            go_wp2_with (first
             | (at_mapUpdate;(refine jr0 _ rfl _ _ _ rfl c (w.heap.size+1) x y rfl HM4.out rfl HFV.out.symm ?_;intro w5 hM5 hg5;obtain⟨hk5,s5,hbw5,z5⟩:=HX.out w5 hg5;have hl0:Live w5 w.heap.size 0 (.int .i64 0):=(A0.out.blk (hk5 _ z1 (by omega)));have hl1:Live w5 w.heap.size 1 (.int .i64 0):=(A3.out.blk (hk5 _ z1 (by omega)));obtain⟨l1,l2⟩:=hl0;obtain⟨l3,l4⟩:=hl1))
             | (at_builtin;(refine kd2 rfl _ _ rfl w5 (w.heap.size+2) u7 acc tb rfl (jb5 O1.out fun q hq=>by obtain⟨y1,y2⟩:=O1.out.blk q hq;exact hk5 q y2 (by omega)) rfl (by omega) (by omega) ?_;intro v' w6 hown6 hb6)))
            obtain⟨r1,r2,r3,r4,r5⟩:=HFIN.out w5 w6 v' hM5 ⟨l1,l2⟩ ⟨l3,l4⟩ hbw5 (by omega) hown6 hb6;exact⟨⟨f,k+2,acc++bl tb,by go_num,Lib.hid hown6,by omega,by rw[List.length_append,jb1];omega,by omega,Lib.hid E1.out.symm,Lib.hid r1,Lib.hid r2,Lib.hid r3,Lib.hid r4,Lib.hid r5⟩,by simp[intOf];omega⟩
          · have hA:=bal (Below.refl W1.heap.size W1) (.cells #[.string tb] 213)
            obtain⟨r1,r2,r3,r4,r5⟩:=HFIN.out _ w6 v' (HM1.out.bel hA) (A0.out.keep hA) (A3.out.keep hA) (HBW.out.trans (hA.mono HBW.out.size)) (Nat.le_trans HZ1.out hA.size) hown6 hb6;exact⟨⟨f,k+2,acc++bl tb,by go_num,Lib.hid hown6,by omega,by rw[List.length_append,jb1];omega,by omega,Lib.hid E1.out.symm,Lib.hid r1,Lib.hid r2,Lib.hid r3,Lib.hid r4,Lib.hid r5⟩,by simp[intOf];omega⟩
      · have hkk:k+1=b.size:=by omega
        have ht:tok2 c ((bl b).drop k)=none:=by
         rw[hd,List.drop_of_length_le (by rw[HBL.out];omega)];unfold tok2;simp[tokD,hx8']
        have e1:=jh1 (tok:=tok2 c) f _ k acc hne ht;rw[hRT.out]at e1;obtain⟨a1,a2⟩:=hn0.out;obtain⟨a3,a4⟩:=hn1.out;have hsub:IntKind.i64.wrap ((b.size:Int)-(k:Int))=1:=by rw[jf2 _ (by omega) (by omega)];omega
        have E1:=Lib.hid e1;clear e1;clear ht hne hx hd
        go_wp2_with fail
        refine bodyPost_ret (v:=.tuple #[.string ⟨#[]⟩,.agg #[.int .i64 2,.int .i64 k]]) (by simp[results,Tryz.results125,go_sem,a1,a2,a3,a4]) rfl ?_;refine(show DecPost _ _ _ _ from⟨?_,?_⟩)
        · rw[E1.out];rfl
        · exact(hbel.out.setCell (Nat.le_refl _) _).setCell (Nat.le_refl _) _
  · have hkk:k=b.size:=by omega
    subst hkk;have e1:runT (tok2 c) f ((bl b).drop b.size) b.size acc=(acc,none):=by
     rw[List.drop_of_length_le (by rw[HBL.out];exact Nat.le_refl _)];exact kg1 f _ acc
    rw[hRT.out]at e1;have E1:=Lib.hid e1;obtain⟨a1,a2⟩:=hn0.out;obtain⟨a3,a4⟩:=hn1.out;have hcv:=jq6 hown.out;clear e1
    go_wp2_with fail
    refine bodyPost_ret (v:=.tuple #[.string ⟨acc.toArray⟩,.agg #[.int .i64 0,.int .i64 0]]) (by simp[results,Tryz.results125,go_sem,a1,a2,a3,a4]) rfl ?_;refine(show DecPost _ _ _ _ from⟨?_,?_⟩)
    · rw[E1.out];rfl
    · exact(hbel.out.setCell (Nat.le_refl _) _).setCell (Nat.le_refl _) _
set_option maxRecDepth 100000 in
theorem ko_bd:∀p∈pairsM koS,0≤p.1∧0≤p.2∧p.2≤1114111:=by decide +kernel
theorem la_bd:∀p∈pairsM laS,0≤p.1∧0≤p.2∧p.2≤1114111:=by decide +kernel
theorem ko_dec:decT (tokS (sgS (kgM koS))) (bl ⟨#[193,194]⟩)=([208,176,208,177],none):=by decide +kernel
theorem la_enc:encV (lsK (pairsM laS)) (bl ⟨#[208,132]⟩)=.tuple #[.string ⟨#[]⟩,.agg #[.int .i64 6,.int .i64 0]]:=by
 have e1:(scanL (bl ⟨#[208,132]⟩)).2=none:=by decide +kernel
 have e2:decT (tokE (lsK (pairsM laS))) (bl ⟨#[208,132]⟩)=([],some 0):=by decide +kernel
 rw[encV,e1,e2];rfl
theorem of_ko(w:World)(hT:TW w):Calls Tryz.prog 123 #[.int .i64 1] w fun e w'=>∃a cp,e=.returned (.tuple #[.agg #[.slice a 2 cp,.int .i64 1],.bool true])∧Tab w' w.heap.size (.slice a 2 cp) koS∧Below w.heap.size w w':=by
 have h:=vx6 1 w hT (by omega) (by omega);exact h.mono fun e w' ⟨a,cp,h1,h2,h3⟩=>⟨a,cp,by simpa[setN]using h1,by simpa[setS,setN]using h2,h3⟩
theorem of_la(w:World)(hT:TW w):Calls Tryz.prog 123 #[.int .i64 0] w fun e w'=>∃a cp,e=.returned (.tuple #[.agg #[.slice a 1 cp,.int .i64 0],.bool true])∧Tab w' w.heap.size (.slice a 1 cp) laS∧Below w.heap.size w w':=by
 have h:=vx6 0 w hT (by omega) (by omega);exact h.mono fun e w' ⟨a,cp,h1,h2,h3⟩=>⟨a,cp,by simpa[setN]using h1,by simpa[setS,setN]using h2,h3⟩
theorem dec_ko(v:Value)(B:Nat)(w:World)(hT:TW w)(hX:Tab w B v koS):Calls Tryz.prog 124 #[.agg #[v,.int .i64 1],.string ⟨#[193,194]⟩] w fun e w'=>
 e=.returned (.tuple #[.string ⟨#[208,176,208,177]⟩,.agg #[.int .i64 0,.int .i64 0]])∧Below w.heap.size w w':=by
 have h:=kj8 v koS B 1 ⟨#[193,194]⟩ w hT hX qb9 (by simp[koS]) (by decide) ko_bd;rw[ko_dec]at h;exact h
theorem enc_la(v:Value)(B:Nat)(w:World)(hT:TW w)(hX:Tab w B v laS):Calls Tryz.prog 161 #[.agg #[v,.int .i64 0],.string ⟨#[208,132]⟩] w fun e w'=>
 e=.returned (.tuple #[.string ⟨#[]⟩,.agg #[.int .i64 6,.int .i64 0]])∧Below w.heap.size w w':=by
 have h:=qq1 v laS B 0 ⟨#[208,132]⟩ w hT hX vb4 (by simp[laS]) (by decide) la_bd;rw[la_enc]at h;exact h
theorem qw9(w:World)(hT:TW w):Calls Tryz.prog 133 #[] w fun e w'=>e=.returned (.bool true)∧Below w.heap.size w w':=by
 have k1:=fun w hT=>of_ko w hT
 have k2:=fun w hT=>of_la w hT
 have k3:=fun v B w hT hX=>dec_ko v B w hT hX
 have k4:=fun v B w hT hX=>enc_la v B w hT hX
 have k5:=fun w hT=>kp9 w hT
 have k6:=fun w hT=>qx0 w hT
 have kB:∀w,Calls Tryz.prog 16 #[.agg #[.int .i64 0,.int .i64 0]] w fun e w'=>e=.returned (.bool false)∧Below w.heap.size w w':=fun w=>jb8 0 0 w
 have kE:=qc9 6 0 6 0;have kG:=fun op x y w=>jj6 op x y #[.int .i64 6,.int .i64 0] #[.int .i64 6,.int .i64 0] w
 have K1:=Lib.hid k1;have K2:=Lib.hid k2;have K3:=Lib.hid k3;have K4:=Lib.hid k4;have K5:=Lib.hid k5;have K6:=Lib.hid k6;have KB:=Lib.hid kB;clear k1 k2 k3 k4 k5 k6 kB
 go_enter Tryz.func133,Tryz.ntmps133
 go_wp2_with fail
 refine(K1.out _ hT).mono ?_;rintro e w1 ⟨a1,c1,rfl,ht1,hb1⟩;have hc1:=bal hb1 (.cells #[.slice a1 2 c1,.int .i64 1] 177);have hq1:Below w1.heap.size w1 (w1.alloc (.cells #[.slice a1 2 c1,.int .i64 1] 177)):=bal (Below.refl _ _) _;have ht1':=ht1.bel hq1;have hT1:=hT.bel hc1
 go_wp2_with fail
 refine(K3.out _ _ _ hT1 ht1').mono ?_;rintro e w2 ⟨rfl,hb2⟩;have hc2:=bal (bt hc1 hb2) (.cells #[.int .i64 0,.int .i64 0] 54);have hT2:=hT.bel hc2;have f0:(w2.alloc (.cells #[.int .i64 0,.int .i64 0] 54)).cell? ⟨w2.heap.size,0,none⟩=some (.int .i64 0):=by go_simp
 have f1:(w2.alloc (.cells #[.int .i64 0,.int .i64 0] 54)).cell? ⟨w2.heap.size,1,none⟩=some (.int .i64 0):=by go_simp
 have F0:=Lib.hid f0;have F1:=Lib.hid f1;clear f0 f1
 go_wp2_with fail
 refine(K2.out _ hT2).mono ?_;rintro e w3 ⟨a3,c3,rfl,ht3,hb3⟩;have hq3:Below w3.heap.size w3 (w3.alloc (.cells #[.slice a3 1 c3,.int .i64 0] 177)):=bal (Below.refl _ _) _;have hc3:=bt (bt hc2 hb3) hq3;have ht3':=ht3.bel hq3;have hT3:=hT.bel hc3;have f0:=kc hq3 (kc hb3 F0.out);have f1:=kc hq3 (kc hb3 F1.out);have G0:=Lib.hid f0;have G1:=Lib.hid f1;clear f0 f1
 go_wp2_with fail
 refine(K4.out _ _ _ hT3 ht3').mono ?_;rintro e w4 ⟨rfl,hb4⟩;have hq4:Below w4.heap.size w4 (w4.alloc (.cells #[.int .i64 6,.int .i64 0] 54)):=bal (Below.refl _ _) _;have hc4:=bt (bt hc3 hb4) hq4;have hT4:=hT.bel hc4;have f0:=kc hq4 (kc hb4 G0.out);have f1:=kc hq4 (kc hb4 G1.out);have g0:(w4.alloc (.cells #[.int .i64 6,.int .i64 0] 54)).cell? ⟨w4.heap.size,0,none⟩=some (.int .i64 6):=by go_simp
 have g1:(w4.alloc (.cells #[.int .i64 6,.int .i64 0] 54)).cell? ⟨w4.heap.size,1,none⟩=some (.int .i64 0):=by go_simp
 have HC4:=Lib.hid hc4;have HT4:=Lib.hid hT4;clear hc4 hT4;clear hc1 hc2 hc3 hT1 hT2 hT3 ht1 ht1' ht3 ht3' hb1 hb2 hb3 hb4 hq1 hq3 hq4
 go_wp2_with (first
  | (go_at_call 132;refine(K5.out _ HT4.out).mono ?_;rintro e w5 ⟨rfl,hb5⟩;have f02:=kc hb5 f0;have f12:=kc hb5 f1;have g02:=kc hb5 g0;have g12:=kc hb5 g1)
  | (go_at_call 162;refine(K6.out _ (HT4.out.bel hb5)).mono ?_;rintro e w6 ⟨rfl,hb6⟩;have f03:=kc hb6 f02;have f13:=kc hb6 f12;have g03:=kc hb6 g02;have g13:=kc hb6 g12)
  | (go_at_call 16;refine(KB.out _).mono ?_;rintro e w7 ⟨rfl,hb7⟩;have g04:=kc hb7 g03;have g14:=kc hb7 g13))
 go_ret
 exact⟨rfl,bt (bt (bt HC4.out hb5) hb6) hb7⟩
def letterB(p:Int):Bool:=decide ((1072≤p∧p≤1119)∨p=1169)
def capitalB(p:Int):Bool:=decide ((1024≤p∧p≤1071)∨p=1168)
theorem kv1(p:Int)(w:World):Calls Tryz.prog 131 #[.int .i32 p] w fun e w'=>e=.returned (.bool (letterB p))∧w=w':=by
 go_enter Tryz.func131,Tryz.ntmps131
 go_wp2
 all_goals go_ret
 all_goals (refine⟨jg0 ?_,rfl⟩;unfold letterB;rw[Bool.eq_iff_iff];simp;omega)
theorem kp6(p:Int)(w:World):Calls Tryz.prog 130 #[.int .i32 p] w fun e w'=>e=.returned (.bool (capitalB p))∧w=w':=by
 go_enter Tryz.func130,Tryz.ntmps130
 go_wp2
 all_goals go_ret
 all_goals (refine⟨jg0 ?_,rfl⟩;unfold capitalB;rw[Bool.eq_iff_iff];simp;omega)
def plainM(p:Int):Int:=if p=9∨p=10∨p=13 then 0 else if p<32∨p=127 then -6 else 0
def latinM(p:Int):Int:=if p<160 then -8 else if p≤191∨p=215∨p=247 then -1 else 1
def russianM(p:Int):Int:=if letterB p=true then 4 else if capitalB p=true then 2 else -4
def chineseM(p:Int):Int:=if 19968≤p∧p≤40959 then 5 else 1
noncomputable def koreanM(p:Int):Int:=if 44032≤p∧p≤55203 then(if rankIn p=true then 6 else 2)else if 12593≤p∧p≤12686 then -2 else 1
theorem vk4(p:Int)(w:World):Calls Tryz.prog 154 #[.int .i32 p] w fun e w'=>e=.returned (.int .i64 (plainM p))∧w=w':=by
 go_enter Tryz.func154,Tryz.ntmps154
 go_wp2
 all_goals go_ret
 all_goals (refine⟨jr2 ?_,rfl⟩;unfold plainM;(try simp only[Bool.or_eq_true,Bool.or_eq_false_iff,Bool.not_eq_true,Bool.not_eq_false,beq_iff_eq,beq_eq_false_iff_ne,decide_eq_true_eq,decide_eq_false_iff_not]at *);(repeat' split)<;>omega)
theorem vk5(p:Int)(w:World):Calls Tryz.prog 155 #[.int .i32 p] w fun e w'=>e=.returned (.int .i64 (latinM p))∧w=w':=by
 go_enter Tryz.func155,Tryz.ntmps155
 go_wp2
 all_goals go_ret
 all_goals (refine⟨jr2 ?_,rfl⟩;unfold latinM;(try simp only[Bool.or_eq_true,Bool.or_eq_false_iff,Bool.not_eq_true,Bool.not_eq_false,beq_iff_eq,beq_eq_false_iff_ne,decide_eq_true_eq,decide_eq_false_iff_not]at *);(repeat' split)<;>omega)
theorem qv2(p:Int)(w:World):Calls Tryz.prog 158 #[.int .i32 p] w fun e w'=>e=.returned (.int .i64 (chineseM p))∧w=w':=by
 go_enter Tryz.func158,Tryz.ntmps158
 go_wp2
 all_goals go_ret
 all_goals (refine⟨jr2 ?_,rfl⟩;unfold chineseM;(repeat' split)<;>omega)
theorem qm9(p:Int)(w:World):Calls Tryz.prog 156 #[.int .i32 p] w fun e w'=>e=.returned (.int .i64 (russianM p))∧w=w':=by
 have k1:=fun w=>kv1 p w
 have k2:=fun w=>kp6 p w
 have hm:russianM p=if letterB p=true then 4 else if capitalB p=true then 2 else -4:=rfl
 rw[hm];clear hm;generalize letterB p=a at *;generalize capitalB p=b at *;have K1:=Lib.hid k1;have K2:=Lib.hid k2;clear k1 k2;cases a<;>cases b
 all_goals (
  go_enter Tryz.func156,Tryz.ntmps156
  go_wp2_with (first
   | (go_at_call 131;refine(K1.out _).mono ?_;rintro e w1 ⟨rfl,rfl⟩)
   | (go_at_call 130;refine(K2.out _).mono ?_;rintro e w1 ⟨rfl,rfl⟩))
  go_ret
  exact⟨rfl,rfl⟩)
theorem vj1(p:Int)(w:World)(hp0:0≤p)(hp1:p≤1114111):Calls Tryz.prog 157 #[.int .i32 p] w fun e w'=>e=.returned (.int .i64 (koreanM p))∧Below w.heap.size w w':=by
 by_cases h:44032≤p∧p≤55203
 · have k1:=fun w=>qz3 p w h.1 h.2
   have hm:koreanM p=if rankIn p=true then 6 else 2:=by unfold koreanM;rw[if_pos h]
   rw[hm];clear hm;generalize rankIn p=a at *;generalize rankM p=r at *;have K1:=Lib.hid k1;clear k1;clear h;cases a
   all_goals (
    go_enter Tryz.func157,Tryz.ntmps157
    go_wp2_with (go_at_call 180;refine(K1.out _).mono ?_;rintro e w1 ⟨rfl,hb1⟩)
    go_ret
    exact⟨rfl,hb1⟩)
 · have k1:=fun w=>rank_out p w (by omega) (by omega) (by omega)
   have hm:koreanM p=if 12593≤p∧p≤12686 then -2 else 1:=by unfold koreanM;rw[if_neg h]
   rw[hm];have K1:=Lib.hid k1;clear k1;clear h hm;rcases(show p<12593∨(12593≤p∧p≤12686)∨(12593≤p∧12686<p) from by omega)with h|⟨h,h'⟩|⟨h,h'⟩
   · rw[if_neg (by omega)]
     go_enter Tryz.func157,Tryz.ntmps157
     go_wp2_with (go_at_call 180;refine(K1.out _).mono ?_;rintro e w1 ⟨rfl,hb1⟩)
     go_ret
     exact⟨rfl,hb1⟩
   · rw[if_pos ⟨h,h'⟩]
     go_enter Tryz.func157,Tryz.ntmps157
     go_wp2_with (go_at_call 180;refine(K1.out _).mono ?_;rintro e w1 ⟨rfl,hb1⟩)
     go_ret
     exact⟨rfl,hb1⟩
   · rw[if_neg (by omega)]
     go_enter Tryz.func157,Tryz.ntmps157
     go_wp2_with (go_at_call 180;refine(K1.out _).mono ?_;rintro e w1 ⟨rfl,hb1⟩)
     go_ret
     exact⟨rfl,hb1⟩
noncomputable def weightM(c p:Int):Int:=if p<128 then plainM p else if c=0 then latinM p else if c=1∨c=2∨c=3 then russianM p else if c=4∨c=5 then koreanM p else chineseM p
theorem vp5(c p:Int) : -8≤weightM c p∧weightM c p≤6:=by
 unfold weightM plainM latinM russianM koreanM chineseM
 repeat' split
 all_goals omega
theorem vd1(c p:Int)(w:World)(h0:0≤c)(h1:c≤6)(hp0:0≤p)(hp1:p≤1114111):Calls Tryz.prog 129 #[.int .i64 c,.int .i32 p] w fun e w'=>e=.returned (.int .i64 (weightM c p))∧Below w.heap.size w w':=by
 have k1:=fun w=>vk4 p w
 have k2:=fun w=>vk5 p w
 have k3:=fun w=>qm9 p w
 have k4:=fun w=>vj1 p w hp0 hp1
 have k5:=fun w=>qv2 p w
 have hm:weightM c p=if p<128 then plainM p else if c=0 then latinM p else if c=1∨c=2∨c=3 then russianM p else if c=4∨c=5 then koreanM p else chineseM p:=rfl
 rw[hm];clear hm;generalize plainM p=a1 at *;generalize latinM p=a2 at *;generalize russianM p=a3 at *;generalize koreanM p=a4 at *;generalize chineseM p=a5 at *;have K1:=Lib.hid k1;have K2:=Lib.hid k2;have K3:=Lib.hid k3;have K4:=Lib.hid k4;have K5:=Lib.hid k5;clear k1 k2 k3 k4 k5;by_cases hp:p<128
 · rw[if_pos hp]
   go_enter Tryz.func129,Tryz.ntmps129
   go_wp2_with (go_at_call 154;refine(K1.out _).mono ?_;rintro e w1 ⟨rfl,rfl⟩)
   go_ret
   exact⟨rfl,Below.refl _ _⟩
 · rw[if_neg hp]
   rcases(show c=0∨c=1∨c=2∨c=3∨c=4∨c=5∨c=6 from by omega)with rfl|rfl|rfl|rfl|rfl|rfl|rfl
   all_goals (
    go_enter Tryz.func129,Tryz.ntmps129
    go_wp2_with (first
     | (go_at_call 155;refine(K2.out _).mono ?_;rintro e w1 ⟨rfl,rfl⟩)
     | (go_at_call 156;refine(K3.out _).mono ?_;rintro e w1 ⟨rfl,rfl⟩)
     | (go_at_call 157;refine(K4.out _).mono ?_;rintro e w1 ⟨rfl,hb1⟩)
     | (go_at_call 158;refine(K5.out _).mono ?_;rintro e w1 ⟨rfl,rfl⟩))
    go_ret
    exact⟨rfl,by first|exact hb1|exact Below.refl _ _⟩)
end Go.Proofs.YtagjkmkmphamoaaGreatDoor
