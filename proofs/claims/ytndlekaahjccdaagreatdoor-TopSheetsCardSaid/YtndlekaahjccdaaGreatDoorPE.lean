/- PE -/
import Derived.Test.YtndlekaahjccdaaGreatDoorPD
set_option linter.all false
set_option maxRecDepth 100000
set_option maxHeartbeats 40000000
set_option maxHeartbeats 8000000
noncomputable section
namespace Go.Proofs.YtndlekaahjccdaaGreatDoor
section
open Go.RowKit Go.Proofs.Tryz
def signsM(c l s:Int):List UInt8:=
 if c=4 then(if(wSignM l s).2=true then(textM [(wSignM l s).1]).1 else [])
 else if c=5 then(if signJB (l*256+s)=true then(textM [signJ (l*256+s)]).1 else [])
 else(bSignsM l s).1
def SignsPost(r:List UInt8)(w:World)(e:Ending)(w':World):Prop:=e=.returned (.string ⟨r.toArray⟩)/\Below w.heap.size w w'
theorem yD5(c l s:Int)(w:World)(hT:TW w)(h0:0<=l)(h1:l<=255)(h2:0<=s)(h3:s<=255):
 Calls prog 278 #[.int .i64 c,.int .u8 l,.int .u8 s] w (SignsPost (signsM c l s) w):=by
 have k1:=fun w hT=>y68 l s w hT h0 h1 h2 h3
 have k2:=fun w=>yB3 l s w h0 h1 h2 h3
 have k3:=fun w=>y6e l s w h0 h1 h2 h3
 have k4:=fun w p t=>y4J _ [p] _ (row_one w p t) (by simp)
 by_cases c4:c=4
 . subst c4
   have hm:signsM 4 l s=if(wSignM l s).2=true then(textM [(wSignM l s).1]).1 else []:=rfl
   rcases hp:wSignM l s with⟨p,b⟩
   rw[hp]at k1 hm;simp only at k1 hm;rw[hm];obtain⟨t,ht⟩:∃t,t=textM [p]:=⟨_,rfl⟩;have k4:=fun w t=>k4 w p t
   rw[<-ht]at k4 ⊢;clear hm hp ht;have K1:=z7 k1;have K4:=z7 k4;clear k1 k4;clear k2 k3;cases b
   . go_enter func278,ntmps278
     go_wp2_with (go_at_call 301;refine(K1.out _ hT).mono ?_;rintro e w1 ⟨rfl,H5⟩)
     refine bodyPost_ret (v:=.string ⟨#[]⟩) (by simp[results,results278,go_sem]) rfl ?_;exact(show SignsPost _ _ _ _ from⟨rfl,H5⟩)
   . go_enter func278,ntmps278
     go_wp2_with (first
      | (go_at_call 301;refine(K1.out _ hT).mono ?_;rintro e w1 ⟨rfl,H5⟩)
      | (go_at_call 206;refine(K4.out _ _).mono ?_;rintro e w2 ⟨rfl,H6⟩))
     refine bodyPost_ret (v:=.string ⟨t.1.toArray⟩) (by simp[results,results278,go_sem]) rfl ?_;exact(show SignsPost _ _ _ _ from⟨rfl,bt (bal H5 _) H6⟩)
 . by_cases c5:c=5
   . subst c5
     have hm:signsM 5 l s=if signJB (l*256+s)=true then(textM [signJ (l*256+s)]).1 else []:=rfl
     rw[hm];generalize signJB (l*256+s)=b at *;generalize signJ (l*256+s)=p at *;obtain⟨t,ht⟩:∃t,t=textM [p]:=⟨_,rfl⟩;have k4:=fun w t=>k4 w p t
     rw[<-ht]at k4 ⊢;clear hm ht;have K2:=z7 k2;have K4:=z7 k4;clear k2 k4;clear k1 k3;cases b
     . go_enter func278,ntmps278
       go_wp2_with (go_at_call 299;refine(K2.out _).mono ?_;rintro e w1 ⟨rfl,rfl⟩)
       refine bodyPost_ret (v:=.string ⟨#[]⟩) (by simp[results,results278,go_sem]) rfl ?_;exact(show SignsPost _ _ _ _ from⟨rfl,z8⟩)
     . go_enter func278,ntmps278
       go_wp2_with (first
        | (go_at_call 299;refine(K2.out _).mono ?_;rintro e w1 ⟨rfl,rfl⟩)
        | (go_at_call 206;refine(K4.out _ _).mono ?_;rintro e w2 ⟨rfl,H6⟩))
       refine bodyPost_ret (v:=.string ⟨t.1.toArray⟩) (by simp[results,results278,go_sem]) rfl ?_;exact(show SignsPost _ _ _ _ from⟨rfl,bt (bal (z8) _) H6⟩)
   . have hm:signsM c l s=(bSignsM l s).1:=by unfold signsM;rw[if_neg c4,if_neg c5]
     rw[hm];generalize bSignsM l s=R at *;have d4:(c==4)=false:=by simpa using c4
     have d5:(c==5)=false:=by simpa using c5
     have K3:=z7 k3;clear k3;clear k1 k2 k4 hm
     go_enter func278,ntmps278
     go_wp2_with (go_at_call 303;refine(K3.out _).mono ?_;rintro e w1 ⟨rfl,H5⟩)
     refine bodyPost_ret (v:=.string ⟨R.1.toArray⟩) (by simp[results,results278,go_sem]) rfl ?_;exact(show SignsPost _ _ _ _ from⟨rfl,H5⟩)
end
section
open Go.RowKit Go.Maps Go.Proofs.Tryz
def twoV(a b:UInt8):Value:=.agg #[.int .u8 (a.toNat:Int),.int .u8 (b.toNat:Int)]
def toldV(c:Int)(a b:UInt8):Value:=.agg #[.string ⟨(signsM c a.toNat b.toNat).toArray⟩]
theorem yGo{a b x y:UInt8}(h:twoV a b=twoV x y):a=x/\b=y:=by
 simp only[twoV,Value.agg.injEq,Array.mk.injEq,List.cons.injEq,Value.int.injEq,true_and,and_true]at h;exact⟨UInt8.toNat_inj.1 (by omega),UInt8.toNat_inj.1 (by omega)⟩
def Memo(c:Int)(w:World)(blk:Nat):Prop:=∃S,MapS prog 298 w blk S/\∀u v,S u v->∀a b:UInt8,u=twoV a b->v=toldV c a b
theorem Memo.made(c:Int)(w:World):Memo c (w.alloc (.map #[] 0)) w.heap.size:=⟨_,MapS.made w _ _,fun _ _ h=>h.elim⟩
theorem Memo.lt{c:Int}{w:World}{b:Nat}(h:Memo c w b):b<w.heap.size:=h.elim fun _ h=>h.1.lt
theorem Memo.blk{c:Int}{w w':World}{b:Nat}(h:Memo c w b)(he:w'.heap[b]?=w.heap[b]?):Memo c w' b:=h.elim fun S h=>⟨S,h.1.blk he,h.2⟩
theorem Memo.bel{c:Int}{w w':World}{b:Nat}(h:Memo c w b)(hb:Below w.heap.size w w'):Memo c w' b:=h.blk (hb.block b h.lt)
theorem yGg(w:World):(zeroValue 300).run prog w=.ok (.agg #[.string ⟨#[]⟩]) w:=by
 have hz:(Tryz.prog.info? 300).map (·.zero)=some (some (.agg #[.string ⟨#[]⟩])):=by kernel_rfl
 cases hq:Tryz.prog.info? 300 with
 | none=>simp[hq]at hz
 | some ii=>
  have:ii.zero=some (.agg #[.string ⟨#[]⟩]):=by simpa[hq]using hz
  simp[zeroValue,typeInfo,hq,this]
section
variable {ops:Array Oper} {rest:List Oper} {o:Oper} {a:Act} {Q:Exit->Act->World->Prop}
theorem y1r(w:World)(hg:o.guard=none)(m x:Operand)(H5:o.op=Op.lookup 297 m x true)(c:Int)(blk:Nat)(p q:UInt8)(hm:a.eval m=.map (some blk))
 (hS:Memo c w blk) (hx:a.eval x=twoV p q) (t:ByteArray) (ht:Hid (t=⟨(signsM c p.toNat q.toNat).toArray⟩))
 (h0:wpList prog ops Q rest (a.put o.dst (.tuple #[.agg #[.string ⟨#[]⟩],.bool false])) w)
 (h1:wpList prog ops Q rest (a.put o.dst (.tuple #[.agg #[.string t],.bool true])) w):wpList prog ops Q (o::rest) a w:=by
 obtain⟨S,hM,hS⟩:=hS;obtain⟨kl,hk⟩:=key2 p q;refine y11 w hg m x _ H5 298 300 yId underlying297 _ (yGg w) blk S hm hM _ kl hx hk (fun _=>h0) ?_;intro v hv;rw[hS _ _ hv p q rfl,toldV,<-ht.out];exact h1
theorem y1j(w:World)(hg:o.guard=none)(m x v:Operand)(H5:o.op=Op.mapUpdate 297 m x v)(c:Int)(blk:Nat)(p q:UInt8)(hm:a.eval m=.map (some blk))
 (hS:Memo c w blk) (hx:a.eval x=twoV p q) (hv:a.eval v=toldV c p q)
 (h:∀w',Memo c w' blk->w.grownBy w' (some blk)->wpList prog ops Q rest (a.put o.dst undef) w'):wpList prog ops Q (o::rest) a w:=by
 obtain⟨S,hM,hS⟩:=hS;obtain⟨kl,hk⟩:=key2 p q;refine y1Q w hg m x v _ H5 298 300 yId underlying297 blk S hm hM _ _ kl hx hv hk ?_;intro w' H7 H6;refine h w' ⟨_,H7,?_⟩ H6;rintro u z (⟨rfl,rfl⟩|⟨_,hs⟩) x y e
 . obtain⟨rfl,rfl⟩:=yGo e
   rfl
 . exact hS _ _ hs x y e
end
end
section
open Go.RowKit Go.Proofs.Tryz
def tok2(c:Int):Tok:=tokD fun x y=>signsM c x.toNat y.toNat
theorem Live.blk{w w':World}{b o:Nat}{v:Value}(h:Live w b o v)(he:w'.heap[b]?=w.heap[b]?):Live w' b o v:=by
 unfold Live World.cell? World.frozen? at *;rw[he];exact h
theorem yBj:∀l:List Int,(l.flatMap encR).length<=4*l.length
 | []=>by simp
 | p::l=>by
  have h1:=(y1e p).2;have h2:=yBj l;rw[List.flatMap_cons,zH,List.length_cons];omega
theorem y8A(l:List Int):(textM l).1.length<=4*l.length:=by
 unfold textM;split
 . exact yBj l
 . simp
theorem yDf:∀(l:List (Int×Int×Int)) (a b:Int),(twosL l a b).1.length<=8:=by
 intro l
 induction l with
 | nil=>intro a b;simp[twosL]
 | cons s l ih=>
  intro a b;unfold twosL;split
  . have:=y8A [s.2.1,s.2.2];simp only[List.length_cons,List.length_nil]at this;omega
  . exact ih a b
theorem y8E(c:Int)(x y:UInt8):(signsM c x.toNat y.toNat).length<=8:=by
 have h1:=fun p=>y8A [p]
 simp only[List.length_cons,List.length_nil]at h1;unfold signsM;split
 . split
   . have:=h1 (wSignM x.toNat y.toNat).1;omega
   . simp
 . split
   . split
     . have:=h1 (signJ (x.toNat*256+y.toNat));omega
     . simp
   . unfold bSignsM
     split
     . have:=h1 (oneM x.toNat y.toNat).1;omega
     . have:=yDf bTwos x.toNat y.toNat;omega
theorem y7u(c:Int)(b:ByteArray)(w:World)(hT:TW w)(hb:b.size<=1073741824):
 Calls prog 187 #[.int .i64 c,.string b] w (DecPost (decT (tok2 c) (bl b)) w):=by
 have Hd:Hid ((bl b).length=b.size):=zJ b;obtain⟨R,hR⟩:∃R,R=decT (tok2 c) (bl b):=⟨_,rfl⟩;rw[<-hR];obtain⟨W,hW⟩:∃W,W=w.alloc (.cells #[.int .i64 0,.int .i64 0] 40):=⟨_,rfl⟩;have s1:W.heap.size=w.heap.size+1:=by rw[hW];exact World.size_alloc _ _
 have m0:Live (W.alloc (.map #[] 0)) w.heap.size 0 (.int .i64 0):=by rw[hW];exact(Live.fresh _ _ _ 0 _ rfl).alloc _
 have m1:Live (W.alloc (.map #[] 0)) w.heap.size 1 (.int .i64 0):=by rw[hW];exact(Live.fresh _ _ _ 1 _ rfl).alloc _
 have kW:Memo c (W.alloc (.map #[] 0)) (w.heap.size+1):=by rw[<-s1];exact Memo.made c W
 have kQ:Below w.heap.size w (W.alloc (.map #[] 0)):=by rw[hW];exact bal (bal (z8) _) _
 have kM:(W.alloc (.map #[] 0)).heap.size=w.heap.size+2:=by rw[World.size_alloc,s1]
 have HR:=z7 hR;have HT:=z7 hT;have M0:=z7 m0;have M1:=z7 m1;have Ki:=z7 kW;have Kj:=z7 kQ;have Kh:=z7 kM;clear hR hT m0 m1 kW kQ kM
 go_enter func187,ntmps187
 go_wp2_with (refine y1S rfl _ rfl _ ?_)
 rw[<-hW];generalize W.alloc (.map #[] 0)=W0 at *
 go_loopw [7,8] (fun v at_ wr=>∃(f k:Nat) (acc:List UInt8),at_=.int .i64 (k:Int)/\Hid (Own wr (w.heap.size+2) v acc)/\k<=b.size/\acc.length<=1024*k/\b.size-k<=f/\Hid (runT (tok2 c) f ((bl b).drop k) k acc=R) /\
  Hid (Memo c wr (w.heap.size+1))/\Hid (Live wr w.heap.size 0 (.int .i64 0))/\Hid (Live wr w.heap.size 1 (.int .i64 0))/\Hid (w.heap.size+2<=wr.heap.size)/\Hid (Below w.heap.size w wr)) (fun _ at_ _=>b.size-(intOf at_).toNat)
 case atStart=>exact⟨b.size,0,[],rfl,z7 (Own.nil _ _),zD,by simp,by omega,z7 (by have:=HR.out;unfold decT at this;rw[Hd.out]at this;rw[List.drop_zero];exact this.symm),Ki,M0,M1,z7 (Nat.le_of_eq Kh.out.symm),Kj⟩
 case round=>
  obtain⟨f,k,acc,rfl,He,hk,ha,hf,Hp,kT,Hu,Ht,Hz,H8⟩:=hrel;by_cases Hv:k<b.size
  . obtain⟨f,rfl⟩:∃g,f=g+1:=⟨f-1,by omega⟩
    have H9:(bl b).drop k ≠ []:=y27 (by rw[Hd.out];exact Hv);obtain⟨x,hx⟩:=zM (bl b) k (by rw[Hd.out];exact Hv);have X:∀h,b[k]'h=x:=zS b k x hx;have Kl:=x.toNat_lt;have hd:=drop_at (bl b) k (List.getElem?_eq_some_iff.1 hx).1;rw[(List.getElem?_eq_some_iff.1 hx).2]at hd;by_cases kK:x.toNat<128
    . have H7:x<128:=by rw[UInt8.lt_iff_toNat_lt];exact kK
      have ht:tok2 c ((bl b).drop k)=some ([x],1):=by
       rw[hd];unfold tok2;cases(bl b).drop (k+1)with
       | nil=>simp[tokD,H7]
       | cons y l=>simp[tokD,H7]
      have e1:=y05 (tok:=tok2 c) f _ k acc _ _ H9 ht;rw[Hp.out,List.drop_drop]at e1;have E1:=z7 e1;clear e1;clear ht H9 hx hd
      go_wp2_with (at_builtin;(refine y9R rfl _ _ rfl wr (w.heap.size+2) u7 acc x rfl He.out rfl (by omega) Hz.out ?_;intro v' w4 Hl Hn))
      have r1:=z7 Hl;have r2:=z7 (kT.out.blk (Hn.block _ (by omega)));have Kq:Below (w.heap.size+1) wr w4:=Hn.mono (by omega);have q0:w4.heap[w.heap.size]?=wr.heap[w.heap.size]?:=Hn.block _ (by omega);have r3:Live w4 w.heap.size 0 (.int .i64 0):=by
       have:=Hu.out;unfold Live World.cell? World.frozen? at *;rw[q0];exact this
      have r4:Live w4 w.heap.size 1 (.int .i64 0):=by
       have:=Ht.out;unfold Live World.cell? World.frozen? at *;rw[q0];exact this
      have r5:=zE Hz.out Hn.size;have r6:=H8.out.trans (Hn.mono (by omega));exact⟨⟨f,k+1,acc ++ [x],by go_num,r1,by omega,by rw[zH];simp;omega,by omega,z7 E1.out.symm,r2,z7 r3,z7 r4,z7 r5,z7 r6⟩,by simp[intOf];omega⟩
    . have H7:¬x<128:=by rw[UInt8.lt_iff_toNat_lt];exact kK
      by_cases Kd:k+1<b.size
      . obtain⟨y,hy⟩:=zM (bl b) (k+1) (by rw[Hd.out];exact Kd)
        have Y:∀h,b[k+1]'h=y:=zS b (k+1) y hy;have Kk:=y.toNat_lt;have kz:=drop_at (bl b) (k+1) (List.getElem?_eq_some_iff.1 hy).1;rw[(List.getElem?_eq_some_iff.1 hy).2]at kz;have ht:tok2 c ((bl b).drop k)=if signsM c x.toNat y.toNat = []then none else some (signsM c x.toNat y.toNat,2):=by
         rw[hd,kz];unfold tok2;simp[tokD,H7]
        have kS:=fun w hT=>yD5 c x.toNat y.toNat w hT (by omega) (by omega) (by omega) (by omega)
        have HQ:IntKind.i64.wrap ((b.size:Int)-(k:Int))=(b.size:Int)-(k:Int):=y04 _ (by omega) (by omega);have Kn:¬((b.size:Int)-(k:Int)<2):=by omega
        have Ko:IntKind.i64.wrap ((k:Int)+1)=(k:Int)+1:=y04 _ (by omega) (by omega);have Ke:((k:Int)+1).toNat=k+1:=by omega
        have Kf:(0:Int)<=(k:Int)+1:=by omega
        have kY:=z7 ht;have KS:=z7 kS;clear ht kS;clear hx hd hy kz H9
        go_wp2_with fail
        obtain⟨tb,Hj⟩:∃tb:ByteArray,tb=⟨(signsM c x.toNat y.toNat).toArray⟩:=⟨_,rfl⟩;have kC:bl tb=signsM c x.toNat y.toNat:=by rw[Hj]
        have kP:toldV c x y=.agg #[.string tb]:=by rw[Hj];rfl
        have kX:∀w,TW w->Calls prog 278 #[.int .i64 c,.int .u8 (x.toNat:Int),.int .u8 (y.toNat:Int)] w (fun e w'=>e=.returned (.string tb)/\Below w.heap.size w w'):=by rw[Hj];exact KS.out
        have Km:tb.size<=1024:=by have:=y8E c x y;rw[<-zJ,kC];exact zE this (by decide)
        obtain⟨W1,Ho⟩:∃W1,W1=(wr.alloc (.cells #[.int .u8 (x.toNat:Int),.int .u8 (y.toNat:Int)] 298)).drew:=⟨_,rfl⟩;have Hc:Below wr.heap.size wr W1:=by rw[Ho];exact(bal (z8) _).drew
        have q0:Live W1 wr.heap.size 0 (.int .u8 (x.toNat:Int)):=by rw[Ho];exact(Live.fresh _ _ _ 0 _ rfl).drew
        have q1:Live W1 wr.heap.size 1 (.int .u8 (y.toNat:Int)):=by rw[Ho];exact(Live.fresh _ _ _ 1 _ rfl).drew
        have kV:=kT.out.bel Hc;have o1:=He.out.bel Hc;have a0:=Hu.out.keep Hc;have a3:=Ht.out.keep Hc;have z1:=a0.lt;have z2:=q0.lt;have kA:=H8.out.trans (Hc.mono H8.out.size);have Ha:=zE Hz.out Hc.size;have kR:=HT.out.bel kA;have kZ:=z7 Hj;have kI:=z7 kC;have Hr:=z7 kV;have O1:=z7 o1;have Hh:=z7 kA;have K9:=z7 kR;have Kr:=z7 Hc;have Hw:=z7 Ha;have Kb:=z7 kP;have Ka:=z7 kX;have A0:=z7 a0;have A3:=z7 a3;have Q0:=z7 q0;have Q1:=z7 q1;clear Hj kC kV o1 kA kR Hc Ha kP kX a0 a3 q0 q1;clear KS
        go_region
        rw[<-Ho];clear Ho;obtain⟨a1,a2⟩:=A0.out;obtain⟨a3,a4⟩:=A3.out;obtain⟨p0,_⟩:=Q0.out;obtain⟨p1,_⟩:=Q1.out;by_cases Hb:bl tb = []
        . have Kc:tb.toList.isEmpty=true:=by rw[ByteArray.toList_eq];simpa using Hb
          have Hk:tok2 c ((bl b).drop k)=none:=by rw[kY.out,if_pos (by rw[<-kI.out];exact Hb)]
          have e1:=y0o (tok:=tok2 c) f _ k acc (y27 (by rw[Hd.out];exact Hv)) Hk;rw[Hp.out]at e1;have E1:=z7 e1;have Kg:=z7 Hb;clear e1 Hb;clear Hk
          go_wp2_with (at_lookup;refine y1r W1 rfl _ _ rfl c (w.heap.size+1) x y rfl Hr.out rfl tb kZ ?_ ?_)
          . refine(Ka.out _ (K9.out.alloc _)).mono ?_
            rintro e w3 ⟨rfl,Hg⟩;have H5:=bt (bal (Below.refl W1.heap.size W1) (.cells #[.string ⟨#[]⟩] 300)) Hg;obtain⟨c0,c0'⟩:=(Live.fresh W1 #[.string ⟨#[]⟩] 300 0 _ rfl).keep Hg;obtain⟨d0,_⟩:=Q0.out.keep H5;obtain⟨d1,_⟩:=Q1.out.keep H5;have z3:=zp c0;have Ha:=Hw.out;have Hq:Memo c (w3.setCell ⟨W1.heap.size,0,none⟩ (.string tb)) (w.heap.size+1):=(Hr.out.bel H5).blk (Below.heap_setCell _ _ _ _ (by simp only;omega));have hX:∀w5,(w3.setCell ⟨W1.heap.size,0,none⟩ (.string tb)).grownBy w5 (some (w.heap.size+1)) ->
             (∀j,j<W1.heap.size->j≠w.heap.size+1->w5.heap[j]?=W1.heap[j]?)/\w5.cell? ⟨W1.heap.size,0,none⟩=some (.string tb)/\Below w.heap.size w w5/\W1.heap.size<w5.heap.size:=by
             intro w5 hg;have H9:∀j,j<W1.heap.size->(w3.setCell ⟨W1.heap.size,0,none⟩ (.string tb)).heap[j]?=W1.heap[j]?:=fun j hj=>(Below.heap_setCell _ _ _ _ (Nat.ne_of_lt hj)).trans (H5.block j hj)
             have Hy:(w3.setCell ⟨W1.heap.size,0,none⟩ (.string tb)).heap.size=w3.heap.size:=World.size_setCell _ _ _;refine⟨fun j hj h1=>(hg.block j (by omega) (fun e=>h1 (zF e))).trans (H9 j hj),?_,?_,?_⟩
             . exact hg.cell (World.cell?_setCell_same _ _ _ c0) (fun e=>absurd (zF e) (by simp only;omega))
             . exact((Hh.out.trans (H5.mono Hh.out.size)).setCell (p:=⟨W1.heap.size,0,none⟩) (Nat.le_of_lt z1) _).grown hg (by omega) (by intro q hq;cases hq;omega)
             . have:=hg.size;omega
            have kH:=z7 Hq;have HX:=z7 hX;have kJ:=z7 H5;have kF:=z7 Ha;clear Hq hX H5 Ha;clear Hg
            go_wp2_with (at_mapUpdate;(refine y1j _ rfl _ _ _ rfl c (w.heap.size+1) x y rfl kH.out rfl Kb.out.symm ?_;intro w5 kU ky;obtain⟨Hi,s5,Hf,z5⟩:=HX.out w5 ky;have kx:Live w5 w.heap.size 0 (.int .i64 0):=(A0.out.blk (Hi _ z1 (by omega)));have k9:Live w5 w.heap.size 1 (.int .i64 0):=(A3.out.blk (Hi _ z1 (by omega)));obtain⟨l1,l2⟩:=kx;obtain⟨l3,l4⟩:=k9))
            refine bodyPost_ret (v:=.tuple #[.string ⟨#[]⟩,.agg #[.int .i64 2,.int .i64 k]]) (by simp[results,results187,go_sem,l1,l2,l3,l4]) rfl ?_;refine(show DecPost _ _ _ _ from⟨?_,?_⟩)
            . rw[E1.out];rfl
            . exact(Hf.setCell (zA) _).setCell (zA) _
          . skip
            refine bodyPost_ret (v:=.tuple #[.string ⟨#[]⟩,.agg #[.int .i64 2,.int .i64 k]]) (by simp[results,results187,go_sem,a1,a2,a3,a4,z1]) rfl ?_;refine(show DecPost _ _ _ _ from⟨?_,?_⟩)
            . rw[E1.out];rfl
            . exact((Hh.out.setCell (zA) _).setCell (zA) _).alloc (by simp;omega) _
        . have Kc:tb.toList.isEmpty=false:=by rw[ByteArray.toList_eq];simpa using Hb
          have Hk:tok2 c ((bl b).drop k)=some (bl tb,2):=by rw[kY.out,if_neg (by rw[<-kI.out];exact Hb),kI.out]
          have e1:=y05 (tok:=tok2 c) f _ k acc _ _ (y27 (by rw[Hd.out];exact Hv)) Hk;rw[Hp.out,List.drop_drop]at e1;have E1:=z7 e1;have Kg:=z7 Hb;clear e1 Hb;clear Hk;have Hm:∀(W5 w6:World) (v':Value),Memo c W5 (w.heap.size+1)->Live W5 w.heap.size 0 (.int .i64 0)->Live W5 w.heap.size 1 (.int .i64 0)->Below w.heap.size w W5->w.heap.size+2<=W5.heap.size->Own w6 (w.heap.size+2) v' (acc++bl tb)->Below (w.heap.size+2) W5 w6 ->
           Memo c w6 (w.heap.size+1)/\Live w6 w.heap.size 0 (.int .i64 0)/\Live w6 w.heap.size 1 (.int .i64 0)/\w.heap.size+2<=w6.heap.size/\Below w.heap.size w w6:=by
           intro W5 w6 v' h1 h2 h3 h4 h5 h6 h7;have q0:w6.heap[w.heap.size]?=W5.heap[w.heap.size]?:=h7.block _ (by omega);exact⟨h1.blk (h7.block _ (by omega)),h2.blk q0,h3.blk q0,zE h5 h7.size,h4.trans (h7.mono (by omega))⟩
          have Hs:=z7 Hm;clear Hm
          go_wp2_with (first
           | (at_lookup;refine y1r W1 rfl _ _ rfl c (w.heap.size+1) x y rfl Hr.out rfl tb kZ ?_ ?_)
           | (at_builtin;(refine y3u rfl _ _ rfl (W1.alloc (.cells #[.string tb] 300)) (w.heap.size+2) u7 acc tb rfl (O1.out.alloc _) rfl (by omega) (zE Hw.out (by simp)) ?_;intro v' w6 H6 kD)))
          . refine(Ka.out _ (K9.out.alloc _)).mono ?_
            rintro e w3 ⟨rfl,Hg⟩;have H5:=bt (bal (Below.refl W1.heap.size W1) (.cells #[.string ⟨#[]⟩] 300)) Hg;obtain⟨c0,c0'⟩:=(Live.fresh W1 #[.string ⟨#[]⟩] 300 0 _ rfl).keep Hg;obtain⟨d0,_⟩:=Q0.out.keep H5;obtain⟨d1,_⟩:=Q1.out.keep H5;have z3:=zp c0;have Ha:=Hw.out;have Hq:Memo c (w3.setCell ⟨W1.heap.size,0,none⟩ (.string tb)) (w.heap.size+1):=(Hr.out.bel H5).blk (Below.heap_setCell _ _ _ _ (by simp only;omega));have hX:∀w5,(w3.setCell ⟨W1.heap.size,0,none⟩ (.string tb)).grownBy w5 (some (w.heap.size+1)) ->
             (∀j,j<W1.heap.size->j≠w.heap.size+1->w5.heap[j]?=W1.heap[j]?)/\w5.cell? ⟨W1.heap.size,0,none⟩=some (.string tb)/\Below w.heap.size w w5/\W1.heap.size<w5.heap.size:=by
             intro w5 hg;have H9:∀j,j<W1.heap.size->(w3.setCell ⟨W1.heap.size,0,none⟩ (.string tb)).heap[j]?=W1.heap[j]?:=fun j hj=>(Below.heap_setCell _ _ _ _ (Nat.ne_of_lt hj)).trans (H5.block j hj)
             have Hy:(w3.setCell ⟨W1.heap.size,0,none⟩ (.string tb)).heap.size=w3.heap.size:=World.size_setCell _ _ _;refine⟨fun j hj h1=>(hg.block j (by omega) (fun e=>h1 (zF e))).trans (H9 j hj),?_,?_,?_⟩
             . exact hg.cell (World.cell?_setCell_same _ _ _ c0) (fun e=>absurd (zF e) (by simp only;omega))
             . exact((Hh.out.trans (H5.mono Hh.out.size)).setCell (p:=⟨W1.heap.size,0,none⟩) (Nat.le_of_lt z1) _).grown hg (by omega) (by intro q hq;cases hq;omega)
             . have:=hg.size;omega
            have kH:=z7 Hq;have HX:=z7 hX;have kJ:=z7 H5;have kF:=z7 Ha;clear Hq hX H5 Ha;clear Hg
            go_wp2_with (first
             | (at_mapUpdate;(refine y1j _ rfl _ _ _ rfl c (w.heap.size+1) x y rfl kH.out rfl Kb.out.symm ?_;intro w5 kU ky;obtain⟨Hi,s5,Hf,z5⟩:=HX.out w5 ky;have kx:Live w5 w.heap.size 0 (.int .i64 0):=(A0.out.blk (Hi _ z1 (by omega)));have k9:Live w5 w.heap.size 1 (.int .i64 0):=(A3.out.blk (Hi _ z1 (by omega)));obtain⟨l1,l2⟩:=kx;obtain⟨l3,l4⟩:=k9))
             | (at_builtin;(refine y3u rfl _ _ rfl w5 (w.heap.size+2) u7 acc tb rfl (za O1.out fun q hq=>by obtain⟨y1,y2⟩:=O1.out.blk q hq;exact Hi q y2 (by omega)) rfl (by omega) (by omega) ?_;intro v' w6 H6 kD)))
            obtain⟨r1,r2,r3,r4,r5⟩:=Hs.out w5 w6 v' kU ⟨l1,l2⟩ ⟨l3,l4⟩ Hf (by omega) H6 kD;exact⟨⟨f,k+2,acc++bl tb,by go_num,z7 H6,by omega,by rw[zH,zJ];omega,by omega,z7 E1.out.symm,z7 r1,z7 r2,z7 r3,z7 r4,z7 r5⟩,by simp[intOf];omega⟩
          . have hA:=bal (Below.refl W1.heap.size W1) (.cells #[.string tb] 300)
            obtain⟨r1,r2,r3,r4,r5⟩:=Hs.out _ w6 v' (Hr.out.bel hA) (A0.out.keep hA) (A3.out.keep hA) (Hh.out.trans (hA.mono Hh.out.size)) (zE Hw.out hA.size) H6 kD;exact⟨⟨f,k+2,acc++bl tb,by go_num,z7 H6,by omega,by rw[zH,zJ];omega,by omega,z7 E1.out.symm,z7 r1,z7 r2,z7 r3,z7 r4,z7 r5⟩,by simp[intOf];omega⟩
      . have kO:k+1=b.size:=by omega
        have ht:tok2 c ((bl b).drop k)=none:=by
         rw[hd,List.drop_of_length_le (by rw[Hd.out];omega)];unfold tok2;simp[tokD,H7]
        have e1:=y0o (tok:=tok2 c) f _ k acc H9 ht;rw[Hp.out]at e1;obtain⟨a1,a2⟩:=Hu.out;obtain⟨a3,a4⟩:=Ht.out;have HQ:IntKind.i64.wrap ((b.size:Int)-(k:Int))=1:=by rw[y04 _ (by omega) (by omega)];omega
        have E1:=z7 e1;clear e1;clear ht H9 hx hd
        go_wp2_with fail
        refine bodyPost_ret (v:=.tuple #[.string ⟨#[]⟩,.agg #[.int .i64 2,.int .i64 k]]) (by simp[results,results187,go_sem,a1,a2,a3,a4]) rfl ?_;refine(show DecPost _ _ _ _ from⟨?_,?_⟩)
        . rw[E1.out];rfl
        . exact(H8.out.setCell (zA) _).setCell (zA) _
  . have kO:k=b.size:=by omega
    subst kO;have e1:runT (tok2 c) f ((bl b).drop b.size) b.size acc=(acc,none):=by
     rw[List.drop_of_length_le (by rw[Hd.out];exact zA)];exact y39 f _ acc
    rw[Hp.out]at e1;have E1:=z7 e1;obtain⟨a1,a2⟩:=Hu.out;obtain⟨a3,a4⟩:=Ht.out;have Kp:=y16 He.out;clear e1
    go_wp2_with fail
    refine bodyPost_ret (v:=.tuple #[.string ⟨acc.toArray⟩,.agg #[.int .i64 0,.int .i64 0]]) (by simp[results,results187,go_sem,a1,a2,a3,a4]) rfl ?_;refine(show DecPost _ _ _ _ from⟨?_,?_⟩)
    . rw[E1.out];rfl
    . exact(H8.out.setCell (zA) _).setCell (zA) _
end
end Go.Proofs.YtndlekaahjccdaaGreatDoor
set_option maxHeartbeats 4000000
namespace Go.Proofs.YtndlekaahjccdaaGreatDoor
open Go.RowKit Go.Proofs.Tryz
theorem ko_bd:∀p∈pairsM koS,0<=p.1/\0<=p.2/\p.2<=1114111:=by decide +kernel
theorem la_bd:∀p∈pairsM laS,0<=p.1/\0<=p.2/\p.2<=1114111:=by decide +kernel
theorem ko_dec:decT (tokS (sgS (kgM koS))) (bl ⟨#[193,194]⟩)=([208,176,208,177],none):=by decide +kernel
theorem la_enc:encV (lsK (pairsM laS)) (bl ⟨#[208,132]⟩)=.tuple #[.string ⟨#[]⟩,.agg #[.int .i64 6,.int .i64 0]]:=by
 have e1:(scanL (bl ⟨#[208,132]⟩)).2=none:=by decide +kernel
 have e2:decT (tokE (lsK (pairsM laS))) (bl ⟨#[208,132]⟩)=([],some 0):=by decide +kernel
 rw[encV,e1,e2];rfl
theorem of_ko(w:World)(hT:TW w):Calls prog 185 #[.int .i64 1] w fun e w'=>∃a cp,e=.returned (.tuple #[.agg #[.slice a 2 cp,.int .i64 1],.bool true])/\Tab w' w.heap.size (.slice a 2 cp) koS/\Below w.heap.size w w':=by
 have h:=yEu 1 w hT (by omega) (by omega);exact h.mono fun e w' ⟨a,cp,h1,h2,h3⟩=>⟨a,cp,by simpa[setN]using h1,by simpa[setS,setN]using h2,h3⟩
theorem of_la(w:World)(hT:TW w):Calls prog 185 #[.int .i64 0] w fun e w'=>∃a cp,e=.returned (.tuple #[.agg #[.slice a 1 cp,.int .i64 0],.bool true])/\Tab w' w.heap.size (.slice a 1 cp) laS/\Below w.heap.size w w':=by
 have h:=yEu 0 w hT (by omega) (by omega);exact h.mono fun e w' ⟨a,cp,h1,h2,h3⟩=>⟨a,cp,by simpa[setN]using h1,by simpa[setS,setN]using h2,h3⟩
theorem dec_ko(v:Value)(B:Nat)(w:World)(hT:TW w)(hX:Tab w B v koS):Calls prog 186 #[.agg #[v,.int .i64 1],.string ⟨#[193,194]⟩] w fun e w'=>
 e=.returned (.tuple #[.string ⟨#[208,176,208,177]⟩,.agg #[.int .i64 0,.int .i64 0]])/\Below w.heap.size w w':=by
 have h:=y51 v koS B 1 ⟨#[193,194]⟩ w hT hX y7d (by simp[koS]) (by decide) ko_bd;rw[ko_dec]at h;exact h
theorem enc_la(v:Value)(B:Nat)(w:World)(hT:TW w)(hX:Tab w B v laS):Calls prog 297 #[.agg #[v,.int .i64 0],.string ⟨#[208,132]⟩] w fun e w'=>
 e=.returned (.tuple #[.string ⟨#[]⟩,.agg #[.int .i64 6,.int .i64 0]])/\Below w.heap.size w w':=by
 have h:=y9a v laS B 0 ⟨#[208,132]⟩ w hT hX yBc (by simp[laS]) (by decide) la_bd;rw[la_enc]at h;exact h
theorem y5o(w:World)(hT:TW w):Calls prog 211 #[] w fun e w'=>e=.returned (.bool true)/\Below w.heap.size w w':=by
 have k1:=fun w hT=>of_ko w hT
 have k2:=fun w hT=>of_la w hT
 have k3:=fun v B w hT hX=>dec_ko v B w hT hX
 have k4:=fun v B w hT hX=>enc_la v B w hT hX
 have k5:=fun w hT=>y2x w hT
 have k6:=fun w hT=>y5p w hT
 have kB:∀w,Calls prog 11 #[.agg #[.int .i64 0,.int .i64 0]] w fun e w'=>e=.returned (.bool false)/\Below w.heap.size w w':=fun w=>y0a 0 0 w
 have kE:=yAT 6 0 6 0;have kG:=fun op x y w=>y3h op x y #[.int .i64 6,.int .i64 0] #[.int .i64 6,.int .i64 0] w
 have K1:=z7 k1;have K2:=z7 k2;have K3:=z7 k3;have K4:=z7 k4;have K5:=z7 k5;have K6:=z7 k6;have KB:=z7 kB;clear k1 k2 k3 k4 k5 k6 kB
 go_enter func211,ntmps211
 go_wp2_with fail
 refine(K1.out _ hT).mono ?_;rintro e w1 ⟨a1,c1,rfl,Hj,Hm⟩;have Hg:=bal Hm (.cells #[.slice a1 2 c1,.int .i64 1] 230);have Hk:Below w1.heap.size w1 (w1.alloc (.cells #[.slice a1 2 c1,.int .i64 1] 230)):=bal (z8) _;have H7:=Hj.bel Hk;have Hq:=hT.bel Hg
 go_wp2_with fail
 refine(K3.out _ _ _ Hq H7).mono ?_;rintro e w2 ⟨rfl,Hl⟩;have Hf:=bal (bt Hg Hl) (.cells #[.int .i64 0,.int .i64 0] 40);have Hp:=hT.bel Hf;have f0:(w2.alloc (.cells #[.int .i64 0,.int .i64 0] 40)).cell? ⟨w2.heap.size,0,none⟩=some (.int .i64 0):=by go_simp
 have f1:(w2.alloc (.cells #[.int .i64 0,.int .i64 0] 40)).cell? ⟨w2.heap.size,1,none⟩=some (.int .i64 0):=by go_simp
 have F0:=z7 f0;have F1:=z7 f1;clear f0 f1
 go_wp2_with fail
 refine(K2.out _ Hp).mono ?_;rintro e w3 ⟨a3,c3,rfl,Hi,Hc⟩;have H8:Below w3.heap.size w3 (w3.alloc (.cells #[.slice a3 1 c3,.int .i64 0] 230)):=bal (z8) _;have He:=bt (bt Hf Hc) H8;have H6:=Hi.bel H8;have Ho:=hT.bel He;have f0:=kc H8 (kc Hc F0.out);have f1:=kc H8 (kc Hc F1.out);have G0:=z7 f0;have G1:=z7 f1;clear f0 f1
 go_wp2_with fail
 refine(K4.out _ _ _ Ho H6).mono ?_;rintro e w4 ⟨rfl,Hb⟩;have Ha:Below w4.heap.size w4 (w4.alloc (.cells #[.int .i64 6,.int .i64 0] 40)):=bal (z8) _;have Hd:=bt (bt He Hb) Ha;have Hn:=hT.bel Hd;have f0:=kc Ha (kc Hb G0.out);have f1:=kc Ha (kc Hb G1.out);have g0:(w4.alloc (.cells #[.int .i64 6,.int .i64 0] 40)).cell? ⟨w4.heap.size,0,none⟩=some (.int .i64 6):=by go_simp
 have g1:(w4.alloc (.cells #[.int .i64 6,.int .i64 0] 40)).cell? ⟨w4.heap.size,1,none⟩=some (.int .i64 0):=by go_simp
 have Hs:=z7 Hd;have Hr:=z7 Hn;clear Hd Hn;clear Hg Hf He Hq Hp Ho Hj H7 Hi H6 Hm Hl Hc Hb Hk H8 Ha
 go_wp2_with (first
  | (go_at_call 128;refine(K5.out _ Hr.out).mono ?_;rintro e w5 ⟨rfl,H5⟩;have f02:=kc H5 f0;have f12:=kc H5 f1;have g02:=kc H5 g0;have g12:=kc H5 g1)
  | (go_at_call 298;refine(K6.out _ (Hr.out.bel H5)).mono ?_;rintro e w6 ⟨rfl,H9⟩;have f03:=kc H9 f02;have f13:=kc H9 f12;have g03:=kc H9 g02;have g13:=kc H9 g12)
  | (go_at_call 11;refine(KB.out _).mono ?_;rintro e w7 ⟨rfl,Hh⟩;have g04:=kc Hh g03;have g14:=kc Hh g13))
 go_ret
 exact⟨rfl,bt (bt (bt Hs.out H5) H9) Hh⟩
def letterB(p:Int):Bool:=decide ((1072<=p/\p<=1119)\/p=1169)
def capitalB(p:Int):Bool:=decide ((1024<=p/\p<=1071)\/p=1168)
theorem y6T(p:Int)(w:World):Calls prog 210 #[.int .i32 p] w fun e w'=>e=.returned (.bool (letterB p))/\w=w':=by
 go_enter func210,ntmps210
 go_wp2
 all_goals go_ret
 all_goals (refine⟨y03 ?_,rfl⟩;unfold letterB;rw[Bool.eq_iff_iff];simp;omega)
theorem y5h(p:Int)(w:World):Calls prog 209 #[.int .i32 p] w fun e w'=>e=.returned (.bool (capitalB p))/\w=w':=by
 go_enter func209,ntmps209
 go_wp2
 all_goals go_ret
 all_goals (refine⟨y03 ?_,rfl⟩;unfold capitalB;rw[Bool.eq_iff_iff];simp;omega)
def plainM(p:Int):Int:=if p=9\/p=10\/p=13 then 0 else if p<32\/p=127 then -6 else 0
def latinM(p:Int):Int:=if p<160 then -8 else if p<=191\/p=215\/p=247 then -1 else 1
def russianM(p:Int):Int:=if letterB p=true then 4 else if capitalB p=true then 2 else -4
def chineseM(p:Int):Int:=if 19968<=p/\p<=40959 then 5 else 1
def koreanM(p:Int):Int:=if 44032<=p/\p<=55203 then(if rankIn p=true then 6 else 2)else if 12593<=p/\p<=12686 then -2 else 1
theorem yD1(p:Int)(w:World):Calls prog 292 #[.int .i32 p] w fun e w'=>e=.returned (.int .i64 (plainM p))/\w=w':=by
 go_enter func292,ntmps292
 go_wp2
 all_goals go_ret
 all_goals (refine⟨y3A ?_,rfl⟩;unfold plainM;(try simp only[Bool.or_eq_true,Bool.or_eq_false_iff,Bool.not_eq_true,Bool.not_eq_false,beq_iff_eq,beq_eq_false_iff_ne,decide_eq_true_eq,decide_eq_false_iff_not]at *);(repeat' split)<;>omega)
theorem yD2(p:Int)(w:World):Calls prog 293 #[.int .i32 p] w fun e w'=>e=.returned (.int .i64 (latinM p))/\w=w':=by
 go_enter func293,ntmps293
 go_wp2
 all_goals go_ret
 all_goals (refine⟨y3A ?_,rfl⟩;unfold latinM;(try simp only[Bool.or_eq_true,Bool.or_eq_false_iff,Bool.not_eq_true,Bool.not_eq_false,beq_iff_eq,beq_eq_false_iff_ne,decide_eq_true_eq,decide_eq_false_iff_not]at *);(repeat' split)<;>omega)
theorem yAa(p:Int)(w:World):Calls prog 296 #[.int .i32 p] w fun e w'=>e=.returned (.int .i64 (chineseM p))/\w=w':=by
 go_enter func296,ntmps296
 go_wp2
 all_goals go_ret
 all_goals (refine⟨y3A ?_,rfl⟩;unfold chineseM;(repeat' split)<;>omega)
theorem y8y(p:Int)(w:World):Calls prog 294 #[.int .i32 p] w fun e w'=>e=.returned (.int .i64 (russianM p))/\w=w':=by
 have k1:=fun w=>y6T p w
 have k2:=fun w=>y5h p w
 have hm:russianM p=if letterB p=true then 4 else if capitalB p=true then 2 else -4:=rfl
 rw[hm];clear hm;generalize letterB p=a at *;generalize capitalB p=b at *;have K1:=z7 k1;have K2:=z7 k2;clear k1 k2;cases a<;>cases b
 all_goals (
  go_enter func294,ntmps294
  go_wp2_with (first
   | (go_at_call 210;refine(K1.out _).mono ?_;rintro e w1 ⟨rfl,rfl⟩)
   | (go_at_call 209;refine(K2.out _).mono ?_;rintro e w1 ⟨rfl,rfl⟩))
  go_ret
  exact⟨rfl,rfl⟩)
theorem yCt(p:Int)(w:World)(H7:0<=p)(H6:p<=1114111):Calls prog 295 #[.int .i32 p] w fun e w'=>e=.returned (.int .i64 (koreanM p))/\Below w.heap.size w w':=by
 by_cases h:44032<=p/\p<=55203
 . have k1:=fun w=>yB9 p w h.1 h.2
   have hm:koreanM p=if rankIn p=true then 6 else 2:=by unfold koreanM;rw[if_pos h]
   rw[hm];clear hm;generalize rankIn p=a at *;generalize rankM p=r at *;have K1:=z7 k1;clear k1;clear h;cases a
   all_goals (
    go_enter func295,ntmps295
    go_wp2_with (go_at_call 340;refine(K1.out _).mono ?_;rintro e w1 ⟨rfl,H5⟩)
    go_ret
    exact⟨rfl,H5⟩)
 . have k1:=fun w=>yHF p w (by omega) (by omega) (by omega)
   have hm:koreanM p=if 12593<=p/\p<=12686 then -2 else 1:=by unfold koreanM;rw[if_neg h]
   rw[hm];have K1:=z7 k1;clear k1;clear h hm;rcases(show p<12593\/(12593<=p/\p<=12686)\/(12593<=p/\12686<p) from by omega)with h|⟨h,h'⟩|⟨h,h'⟩
   . rw[if_neg (by omega)]
     go_enter func295,ntmps295
     go_wp2_with (go_at_call 340;refine(K1.out _).mono ?_;rintro e w1 ⟨rfl,H5⟩)
     go_ret
     exact⟨rfl,H5⟩
   . rw[if_pos ⟨h,h'⟩]
     go_enter func295,ntmps295
     go_wp2_with (go_at_call 340;refine(K1.out _).mono ?_;rintro e w1 ⟨rfl,H5⟩)
     go_ret
     exact⟨rfl,H5⟩
   . rw[if_neg (by omega)]
     go_enter func295,ntmps295
     go_wp2_with (go_at_call 340;refine(K1.out _).mono ?_;rintro e w1 ⟨rfl,H5⟩)
     go_ret
     exact⟨rfl,H5⟩
def weightM(c p:Int):Int:=if p<128 then plainM p else if c=0 then latinM p else if c=1\/c=2\/c=3 then russianM p else if c=4\/c=5 then koreanM p else chineseM p
theorem yDU(c p:Int) : -8<=weightM c p/\weightM c p<=6:=by
 unfold weightM plainM latinM russianM koreanM chineseM
 repeat' split
 all_goals omega
theorem yC4(c p:Int)(w:World)(h0:0<=c)(h1:c<=6)(H6:0<=p)(H5:p<=1114111):Calls prog 208 #[.int .i64 c,.int .i32 p] w fun e w'=>e=.returned (.int .i64 (weightM c p))/\Below w.heap.size w w':=by
 have k1:=fun w=>yD1 p w
 have k2:=fun w=>yD2 p w
 have k3:=fun w=>y8y p w
 have k4:=fun w=>yCt p w H6 H5
 have k5:=fun w=>yAa p w
 have hm:weightM c p=if p<128 then plainM p else if c=0 then latinM p else if c=1\/c=2\/c=3 then russianM p else if c=4\/c=5 then koreanM p else chineseM p:=rfl
 rw[hm];clear hm;generalize plainM p=a1 at *;generalize latinM p=a2 at *;generalize russianM p=a3 at *;generalize koreanM p=a4 at *;generalize chineseM p=a5 at *;have K1:=z7 k1;have K2:=z7 k2;have K3:=z7 k3;have K4:=z7 k4;have K5:=z7 k5;clear k1 k2 k3 k4 k5;by_cases hp:p<128
 . rw[if_pos hp]
   go_enter func208,ntmps208
   go_wp2_with (go_at_call 292;refine(K1.out _).mono ?_;rintro e w1 ⟨rfl,rfl⟩)
   go_ret
   exact⟨rfl,z8⟩
 . rw[if_neg hp]
   rcases(show c=0\/c=1\/c=2\/c=3\/c=4\/c=5\/c=6 from by omega)with rfl|rfl|rfl|rfl|rfl|rfl|rfl
   all_goals (
    go_enter func208,ntmps208
    go_wp2_with (first
     | (go_at_call 293;refine(K2.out _).mono ?_;rintro e w1 ⟨rfl,rfl⟩)
     | (go_at_call 294;refine(K3.out _).mono ?_;rintro e w1 ⟨rfl,rfl⟩)
     | (go_at_call 295;refine(K4.out _).mono ?_;rintro e w1 ⟨rfl,H7⟩)
     | (go_at_call 296;refine(K5.out _).mono ?_;rintro e w1 ⟨rfl,rfl⟩))
    go_ret
    exact⟨rfl,by first|exact H7|exact z8⟩)
