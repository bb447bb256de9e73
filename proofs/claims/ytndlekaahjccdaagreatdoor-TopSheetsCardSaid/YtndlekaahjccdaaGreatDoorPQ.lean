/- PQ -/
import Derived.Test.YtndlekaahjccdaaGreatDoorPP
set_option linter.all false
set_option maxRecDepth 100000
set_option maxHeartbeats 40000000
namespace Go.Proofs.YtndlekaahjccdaaGreatDoor
section
open Go.RowKit Go.Proofs.Tryz
def y22(b:ByteArray)(p:Nat×Nat×Nat):List Value:=[.string (b.extract p.1 p.2.1),.string (b.extract p.2.1 p.2.2),.int .i64 (p.1:Int)]
def lcells(b:ByteArray)(L:List (Nat×Nat×Nat)):List Value:=L.flatMap (y22 b)
theorem y0O(b:ByteArray)(L:List (Nat×Nat×Nat))(p:Nat×Nat×Nat):lcells b (L ++ [p])=lcells b L++(#[.string (b.extract p.1 p.2.1),.string (b.extract p.2.1 p.2.2),.int .i64 (p.1:Int)]:Array Value).toList:=by simp[lcells,y22]
theorem infoLine:(Tryz.prog.info? 262).map (fun i=>(i.zero,i.size,i.bytes))=some (some (.agg #[.string ⟨#[]⟩,.string ⟨#[]⟩,.int .i64 0]),3,40):=by kernel_rfl
theorem y7m(b:ByteArray)(i j:Nat)(h:j<=b.size):(b.extract i j).size=j-i:=by rw[zG];omega
theorem y5R(b:ByteArray)(w:World)(hs:b.size<=1000000):Calls prog 241 #[.string b] w fun e w'=>
 ∃v,e=.returned v/\w'.ownsRow w.heap.size 262 3 v (lnF (bl b) 0).length (lcells b (lnF (bl b) 0))/\Below w.heap.size w w':=by
 have HL:Hid ((bl b).length=b.size):=zJ b;have K1:=z7 (fun a w ha=>yBQ b a w hs ha)
 go_enter func241,ntmps241
 go_wp2
 go_loopw [3,4] (fun v iv wr=>∃(a:Nat) (A:List (Nat×Nat×Nat)),iv=.int .i64 (a:Int)/\a<=b.size/\Hid (lnF (bl b) 0=A++lnF (bl b) a)/\Hid (wr.ownsRow w.heap.size 262 3 v A.length (lcells b A))/\Hid (Below w.heap.size w wr)/\A.length<=a) (fun _ iv _=>b.size-(intOf iv).toNat)
 case atStart=>exact⟨0,[],rfl,zD,z7 rfl,z7 (World.ownsRow_nil _ _ _ _),z7 z8,zA⟩
 case round=>
  obtain⟨a,A,rfl,Hb,HA,HO,HB,Hr⟩:=hrel;by_cases Ha:a<b.size
  . have k1:=fun w=>K1.out a w Hb
    obtain⟨E,hE⟩:∃E,E=nxE (bl b) a:=⟨_,rfl⟩;obtain⟨D,hD⟩:∃D,D=nxB (bl b) E:=⟨_,rfl⟩;have H5:=zq (bl b) a (by rw[HL.out];exact Ha);have e1:a<=E:=by rw[hE];exact y20 _ _
    have e2:E<=b.size:=by rw[hE,<-HL.out];exact y2g _ _ (by rw[HL.out];exact Hb)
    have e3:E<=D:=by rw[hD];exact y3C _ _
    have e4:D<=b.size:=by rw[hD,<-HL.out];exact y41 _ _ (by rw[HL.out];exact e2)
    have e5:a<D:=by rw[hD,hE];exact y5J _ _ (by rw[HL.out];exact Ha)
    rw[<-hE,<-hD]at H5;rw[<-hE]at k1;rw[<-hD]at k1;obtain⟨S,hS⟩:∃S,S=b.extract a E:=⟨_,rfl⟩;obtain⟨R,hR⟩:∃R,R=b.extract E D:=⟨_,rfl⟩;have Hc:(S.size:Int)=((E-a:Nat):Int):=by rw[hS,y7m _ _ _ e2]
    have Hd:(R.size:Int)=((D-E:Nat):Int):=by rw[hR,y7m _ _ _ e4]
    have Hf:(S.size:Int)+(R.size:Int)=((D-a:Nat):Int):=by rw[Hc,Hd];omega
    have H9:(a:Int)+((D-a:Nat):Int)=(D:Int):=by omega
    rw[<-hS,<-hR]at k1;have Ho:Hid (lnF (bl b) 0=(A ++ [(a,E,D)])++lnF (bl b) D):=z7 (by rw[HA.out,H5,List.append_assoc];rfl);have H8:=y0O b A (a,E,D);simp only[<-hS,<-hR]at H8;obtain⟨a1,c1,rfl⟩:=zN HO.out;have Hp:w.heap.size<=wr.heap.size:=HB.out.size;have Hh:A.length<70368744177664:=by omega
    have Hg:(A.length+1)*40<=140737488355328:=by omega
    have K2:=z7 k1;have Hn:=z7 H8;clear k1 H8;clear hE hD H5 hS hR Hc Hd HA
    go_wp2_with (first
     | (go_at_call 310;(with_reducible refine(K2.out _).mono ?_);rintro e w1 ⟨rfl,H7⟩;obtain⟨p0,p0'⟩:=Live.fresh w1 #[.string S,.string R,.int .i64 (a:Int)] 262 0 _ rfl;obtain⟨p1,p1'⟩:=Live.fresh w1 #[.string S,.string R,.int .i64 (a:Int)] 262 1 _ rfl;obtain⟨p2,p2'⟩:=Live.fresh w1 #[.string S,.string R,.int .i64 (a:Int)] 262 2 _ rfl)
     | (at_builtin;(refine zR rfl _ _ 260 262 rfl underlying260 (.agg #[.string ⟨#[]⟩,.string ⟨#[]⟩,.int .i64 0]) 3 40 infoLine rfl (by decide) (w1.alloc (.cells #[.string S,.string R,.int .i64 (a:Int)] 262)) w.heap.size (.slice a1 A.length c1) A.length (lcells b A) rfl (zK HO.out (bal H7 _)) #[.string S,.string R,.int .i64 (a:Int)] rfl (by simp[Value.oneCell']) (by show Value.slice (some ⟨w1.heap.size+1,0,none⟩) 1 1=_;rw[Y4]) Hh Hg (by rw[Y4];have:=H7.size;omega) ?_);intro v' w6 H6 Hj Hi;(have F6:=(Hi w1.heap.size (by rw[Y4];omega) (fun hq=>by have h1:=(zf HO.out _ hq.symm).2;have h2:=H7.size;omega)).trans (heap_alloc_new w1 (.cells #[.string S,.string R,.int .i64 (a:Int)] 262)));obtain⟨r0,r0'⟩:=zL F6 0 _ rfl;obtain⟨r1,r1'⟩:=zL F6 1 _ rfl)
     | fail)
    have Hk:=H7.size;have Hm:Below w.heap.size w w6:=(HB.out.trans ((bal H7 _).mono HB.out.size)).trans Hj;have Hl:w6.ownsRow w.heap.size 262 3 v' (A ++ [(a,E,D)]).length (lcells b (A ++ [(a,E,D)])):=by rw[Hn.out,zH,List.length_cons,List.length_nil];exact H6
    refine⟨⟨D,A ++ [(a,E,D)],rfl,e4,Ho,z7 Hl,z7 Hm,by rw[zH,List.length_cons,List.length_nil];omega⟩,?_⟩;simp only[intOf];omega
  . have Hq:a=b.size:=by omega
    have He:lnF (bl b) 0=A:=by rw[HA.out,y0u (bl b) a (by rw[HL.out];omega),List.append_nil]
    have HZ:=z7 He;clear He HA;go_wp2;go_ret
    exact⟨_,rfl,by rw[HZ.out];exact HO.out,HB.out⟩
end
open Go Go.Rf Go.RowKit Go.Proofs.Tryz
def yDO{σ:Type}(F:FuncId)(fst caps:Array Value)(step:σ->ByteArray->Option (σ×List Pc))(I:σ->World->Prop)(B:Nat)(S:Nat->Prop):Prop:=
 ∀st s w,I st w->B<=w.heap.size->s.size<=1000000->Calls prog F (fst.push (.string s)++caps) w fun e w'=>But w.heap.size S w w' /\
  ((step st s=none/\∃x,e=.returned (.tuple #[x,.bool false]))\/∃st' ps v,step st s=some (st',ps)/\I st' w'/\e=.returned (.tuple #[v,.bool true])/\y1q w' v ps.length (pcC ps))
def WalkP{σ:Type}(r:(σ×List Pc) ⊕ Nat)(I:σ->World->Prop)(w:World)(S:Nat->Prop)(e:Ending)(w':World):Prop:=
 But w.heap.size S w w'/\((∃a:Nat,r=.inr a/\e=.returned (.tuple #[.slice none 0 0,.agg #[.int .i64 1,.int .i64 a]])) \/
  ∃st l v,r=.inl (st,l)/\I st w'/\e=.returned (.tuple #[v,.agg #[.int .i64 0,.int .i64 0]])/\w'.ownsRow w.heap.size 173 3 v l.length (pcC l))
def Kept(w1 w2:World):Prop:=∀(k:Nat) (c:Array Value) (e:Nat) (fr:Nat×Nat),w1.heap[k]?=some (Obj.cells c e fr)->e≠173->e≠40->w2.heap[k]?=some (Obj.cells c e fr)
theorem Kept.of{w1 w2:World}(h:Below w1.heap.size w1 w2):Kept w1 w2:=fun k c e fr hk _ _=>(h.block k (lt_of_block hk)).trans hk
theorem Kept.trans{a b c:World}(h:Kept a b)(k:Kept b c):Kept a c:=fun j x e fr hj h1 h2=>k j x e fr (h j x e fr hj h1 h2) h1 h2
theorem Live.eq{w w':World}{b o:Nat}{v:Value}(h:Live w b o v)(e:w'.heap[b]?=w.heap[b]?):Live w' b o v:=
 ⟨by rw[<-h.1];unfold World.cell?;simp only[e],by rw[<-h.2];unfold World.frozen?;simp only[e]⟩
theorem y0s{w:World}{B e k n b:Nat}{v:Value}{cs:List Value}{c:Array Value}{e':Nat}{fr:Nat×Nat}(h:w.ownsRow B e k v n cs)(hb:w.heap[b]?=some (.cells c e' fr))(H5:e≠e'):some b≠v.ownBlock:=by
 intro hk;rcases h.2 with⟨rfl,_⟩|⟨g,cap,cur,rfl,_,hh,_⟩
 . simp[Value.ownBlock]at hk
 . simp only[Value.ownBlock,Option.some.injEq]at hk
   subst hk;rw[hb]at hh;cases hh;exact H5 rfl
theorem Live.but{S:Nat->Prop}{w w':World}{b o:Nat}{v:Value}(h:Live w b o v)(hb:But w.heap.size S w w')(hS:¬S b):Live w' b o v:=h.eq (hb.block b h.lt hS)
theorem y4U{S:Nat->Prop}{w w':World}{B e k n:Nat}{v:Value}{cs:List Value}(h:w.ownsRow B e k v n cs)(hb:But w.heap.size S w w')(hS:∀k,S k->k<B):w'.ownsRow B e k v n cs:=
 za h fun k hk=>hb.block k (zf h k hk).2 fun hs=>by have:=hS k hs;have:=(zf h k hk).1;omega
theorem But.cell{B:Nat}{S:Nat->Prop}{a w:World}(h:But B S a w){p:Addr}(hp:B<=p.block)(u:Value):But B S a (w.setCell p u):=h.trans (.of ((z8).setCell hp u))
theorem But.al{B:Nat}{S:Nat->Prop}{a w:World}(h:But B S a w)(hB:B<=w.heap.size)(x:Obj):But B S a (w.alloc x):=h.trans (.of ((z8).alloc hB x))
theorem y6o{σ:Type}(F:FuncId)(fst caps:Array Value)(hF:∀args w,(callFunc F args).run prog w=.ok (.enter F args) w)(step:σ->ByteArray->Option (σ×List Pc))(I:σ->World->Prop)(S:Nat->Prop)(b:ByteArray)(st0:σ)(w:World)
 (hs:b.size<=1000000) (Hm:∀st s st' ps,step st s=some (st',ps)->ps.length<=2*s.size) (hI:∀st w1 w2,I st w1->Below w.heap.size w1 w2->Kept w1 w2->I st w2) (hS:∀k,S k->k<w.heap.size) (hK:yDO F fst caps step I w.heap.size S) (h0:I st0 w):
 Calls prog 240 #[.string b,.func (.func F) fst caps] w (WalkP (walkS step b st0 [] (lnF (bl b) 0)) I w S):=by
 have HL:Hid ((bl b).length=b.size):=zJ b;have K1:=z7 (fun a w ha=>yBQ b a w hs ha);obtain⟨R,hR⟩:∃R,R=walkS step b st0 [] (lnF (bl b) 0):=⟨_,rfl⟩;rw[<-hR];obtain⟨W,hW⟩:∃W,W=w.alloc (.cells #[.int .i64 0,.int .i64 0] 40):=⟨_,rfl⟩;have Hq:Below w.heap.size w W:=by rw[hW];exact bal z8 _
 have kK:W.heap.size=w.heap.size+1:=by rw[hW,Y4]
 have kQ:=hI st0 w W h0 Hq (.of Hq);have kI:W.heap[w.heap.size]?=some (.cells #[.int .i64 0,.int .i64 0] 40 (0,0)):=by rw[hW];exact heap_alloc_new w _
 have HR:=z7 hR;have HF:=z7 hF;have Hz:=z7 Hm;have HI:=z7 hI;have HS:=z7 hS;have HK:=z7 hK;have kV:=z7 Hq;have Kb:=z7 kI;have Ka:=z7 kQ;have H9:=z7 kK;clear hR hF Hm hI hS hK Hq kI kQ kK;clear h0
 go_enter func240,ntmps240
 go_wp2_with fail
 rw[<-hW];clear hW
 go_loopw [6,7] (fun v iv wr=>∃(a:Nat) (A:List Pc) (st:σ),iv=.int .i64 (a:Int)/\a<=b.size/\Hid (R=walkS step b st A (lnF (bl b) a))/\Hid (wr.ownsRow W.heap.size 173 3 v A.length (pcC A))/\Hid (But w.heap.size S W wr)/\A.length<=3*a/\Hid (I st wr)/\Hid (wr.heap[w.heap.size]?=some (.cells #[.int .i64 0,.int .i64 0] 40 (0,0)))) (fun _ iv _=>b.size-(intOf iv).toNat)
 case atStart=>exact⟨0,[],st0,rfl,zD,HR,z7 (World.ownsRow_nil _ _ _ _),z7 (But.of z8),zD,Ka,Kb⟩
 case round=>
  obtain⟨a,A,st,rfl,kJ,HA,HO,HB,Kd,Hs,BK⟩:=hrel;have L0:=z7 (zL BK.out 0 _ rfl);have L1:=z7 (zL BK.out 1 _ rfl);by_cases Hi:a<b.size
  . have k1:=fun w=>K1.out a w kJ
    obtain⟨E,hE⟩:∃E,E=nxE (bl b) a:=⟨_,rfl⟩;obtain⟨D,hD⟩:∃D,D=nxB (bl b) E:=⟨_,rfl⟩;have Ha:=zq (bl b) a (by rw[HL.out];exact Hi);have e1:a<=E:=by rw[hE];exact y20 _ _
    have e2:E<=b.size:=by rw[hE,<-HL.out];exact y2g _ _ (by rw[HL.out];exact kJ)
    have e3:E<=D:=by rw[hD];exact y3C _ _
    have e4:D<=b.size:=by rw[hD,<-HL.out];exact y41 _ _ (by rw[HL.out];exact e2)
    have e5:a<D:=by rw[hD,hE];exact y5J _ _ (by rw[HL.out];exact Hi)
    rw[<-hE,<-hD]at Ha;rw[<-hE]at k1;rw[<-hD]at k1;obtain⟨T,hT⟩:∃T,T=b.extract a E:=⟨_,rfl⟩;obtain⟨N,hN⟩:∃N,N=b.extract E D:=⟨_,rfl⟩;have Hv:(T.size:Int)=((E-a:Nat):Int):=by rw[hT,y7m _ _ _ e2]
    have Hr:(N.size:Int)=((D-E:Nat):Int):=by rw[hN,y7m _ _ _ e4]
    have kW:(T.size:Int)+(N.size:Int)=((D-a:Nat):Int):=by rw[Hv,Hr];omega
    have kx:(a:Int)+((D-a:Nat):Int)=(D:Int):=by omega
    rw[<-hT,<-hN]at k1;have Hc:=HA.out;rw[Ha]at Hc;unfold walkS at Hc;rw[<-hT]at Hc;have kM:T.size<=1000000:=by omega
    have H7:w.heap.size<=wr.heap.size:=by have:=HB.out.size;have:=H9.out;omega
    cases Hd:step st T with
    | none=>
     rw[Hd]at Hc;have hk:∀w',I st w'->w.heap.size<=w'.heap.size->Calls prog F (fst.push (.string T)++caps) w' fun e w''=>But w'.heap.size S w' w''/\∃x,e=.returned (.tuple #[x,.bool false]):=fun w' h1 h2=>
      (HK.out st T w' h1 h2 kM).mono fun e w'' ⟨hb,h⟩=>⟨hb,by
        rcases h with⟨_,h⟩|⟨_,_,_,h,_⟩
        . exact h
        . rw[Hd]at h;cases h⟩
     have Hu:=z7 hk;have Ht:=z7 Hc;have F0:=HF.out;have K2:=z7 k1;clear k1;clear hE hD Ha hT hN Hv Hr HA hk Hc Hd
     go_wp2_with (first
      | (go_at_call 310;(with_reducible refine(K2.out _).mono ?_);rintro e w1 ⟨rfl,H5⟩;obtain⟨p0,p0'⟩:=Live.fresh w1 #[.string T,.string N,.int .i64 (a:Int)] 262 0 _ rfl)
      | (refine(Hu.out _ (HI.out _ _ _ Hs.out (((z8).trans (H5.mono H7)).alloc (zE H7 H5.size) _) (.of (bal H5 _))) ?_).mono ?_;rotate_left 1;rintro e w2 ⟨H6,x,rfl⟩;(obtain⟨q0,q0'⟩:=((L0.out.keep H5).alloc _).but H6 (by intro h;have:=HS.out _ h;omega));(obtain⟨q1,q1'⟩:=((L1.out.keep H5).alloc _).but H6 (by intro h;have:=HS.out _ h;omega)))
      | fail)
     . have Ho:But w.heap.size S w w2:=((((But.of kV.out).trans HB.out).trans (.of (H5.mono H7))).al (zE H7 H5.size) _).trans (H6.mono (zE H7 (by rw[Y4];exact Nat.le_succ_of_le H5.size)))
       refine bodyPost_ret (v:=.tuple #[.slice none 0 0,.agg #[.int .i64 1,.int .i64 (a:Int)]]) (by simp[results,results240,go_sem,q0,q1,q0',q1']) rfl ?_;exact⟨(Ho.cell zA _).cell zA _,.inl ⟨a,Ht.out,rfl⟩⟩
     . rw[Y4];exact Nat.le_succ_of_le (zE H7 H5.size)
    | some pr=>
     obtain⟨st',ps⟩:=pr;rw[Hd]at Hc;have ky:=Hz.out _ _ _ _ Hd;have hk:∀w',I st w'->w.heap.size<=w'.heap.size->Calls prog F (fst.push (.string T)++caps) w' fun e w''=>But w'.heap.size S w' w''/\I st' w''/\∃v,e=.returned (.tuple #[v,.bool true])/\y1q w'' v ps.length (pcC ps):=fun w' h1 h2=>
      (HK.out st T w' h1 h2 kM).mono fun e w'' ⟨hb,h⟩=>⟨hb,by
        rcases h with⟨h,_⟩|⟨st2,ps2,v,h,h3,h4,h5⟩
        . rw[Hd]at h;cases h
        . rw[Hd]at h;cases h;exact⟨h3,v,h4,h5⟩⟩
     obtain⟨a1,c1,rfl⟩:=zN HO.out;have Hu:=z7 hk;have Ht:=z7 Hc;have F0:=HF.out;have kU:=z7 e5;have k9:=z7 (show A.length+ps.length<=3*D/\(E<D->A.length+ps.length+1<=3*D) by omega);have He:=z7 (show W.heap.size<=wr.heap.size from HB.out.size);have kD:A.length+ps.length<70368744177664:=by omega
     have kC:(A.length+ps.length)*40<=140737488355328:=by omega
     have K2:=z7 k1;have HQ:=z7 kD;have kT:=z7 kC;have Ke:=z7 ky;clear k1 kD kC ky;have kO:N.toList.isEmpty=decide (E=D):=by
      rw[ByteArray.toList_eq,Bool.eq_iff_iff,List.isEmpty_iff,decide_eq_true_iff,<-List.length_eq_zero_iff];show N.size=0↔_;omega
     clear hE hD Ha hT Hv HA hk Hc Hd Hi;by_cases kR:E=D
     . rw[decide_eq_true kR]at kO
       clear hN Hr;have Hy:Hid (R=walkS step b st' (A++ps) (lnF (bl b) D)):=z7 (by rw[Ht.out,if_neg (by omega)];simp only[List.append_nil])
       go_wp2_with (first
        | (go_at_call 310;(with_reducible refine(K2.out _).mono ?_);rintro e w1 ⟨rfl,H5⟩;obtain⟨p0,p0'⟩:=Live.fresh w1 #[.string T,.string N,.int .i64 (a:Int)] 262 0 _ rfl)
        | (refine(Hu.out _ (HI.out _ _ _ Hs.out (((z8).trans (H5.mono H7)).alloc (zE H7 H5.size) _) (.of (bal H5 _))) (by rw[Y4];exact Nat.le_succ_of_le (zE H7 H5.size))).mono ?_;rintro e w2 ⟨H6,Hw,v2,rfl,Hf⟩)
        | (at_builtin;(have Hh:wr.heap.size<=w2.heap.size:=zE H5.size (zE (by rw[Y4];exact Nat.le_succ _) H6.size));(have Hg:=y4U (zK HO.out (bal H5 (.cells #[.string T,.string N,.int .i64 (a:Int)] 262))) (H6.mono zA) (fun k hk=>Nat.lt_of_lt_of_le (HS.out k hk) (by rw[H9.out];exact Nat.le_succ _)));refine y0C rfl _ _ 88 173 rfl underlying88 Y3 3 40 infoLP rfl (by decide) w2 W.heap.size (.slice a1 A.length c1) A.length (pcC A) rfl Hg v2 ps.length (pcC ps) rfl Hf (y0N ps) (y5D ps) HQ.out kT.out (zE He.out Hh) ?_;intro v' w3 H8 Hk Hn;(have hq:∀i v,Live (w1.alloc (.cells #[.string T,.string N,.int .i64 (a:Int)] 262)) w1.heap.size i v->Live w3 w1.heap.size i v:=fun i v hl=>(hl.but H6 (fun h=>by have:=HS.out _ h;have:=H5.size;omega)).eq (Hn _ (by have:=H6.size;rw[Y4]at this;omega) (fun e=>by have:=(zf HO.out _ e.symm).2;have:=H5.size;omega)));obtain⟨p1,p1'⟩:=hq 1 _ (Live.fresh w1 #[.string T,.string N,.int .i64 (a:Int)] 262 1 _ rfl);obtain⟨p2,p2'⟩:=hq 0 _ (Live.fresh w1 #[.string T,.string N,.int .i64 (a:Int)] 262 0 _ rfl))
        | fail)
       have Hh:wr.heap.size<=w2.heap.size:=zE H5.size (zE (by rw[Y4];exact Nat.le_succ _) H6.size);have Ho:=((HB.out.trans (.of (H5.mono H7))).al (zE H7 H5.size) (.cells #[.string T,.string N,.int .i64 (a:Int)] 262)).trans (H6.mono (zE H7 (by rw[Y4];exact Nat.le_succ_of_le H5.size)));have Hb:Below w.heap.size w2 w3:=Hk.mono (by rw[H9.out];exact Nat.le_succ _);have bkz:∀X,Below W.heap.size w2 X->X.heap[w.heap.size]?=_:=fun X h=>(h.block _ (by rw[H9.out];exact Nat.lt_succ_self _)).trans ((H6.block _ (by have:=H5.size;rw[Y4];have:=He.out;rw[H9.out]at this;omega) (fun h=>by have:=HS.out _ h;omega)).trans (((bal H5 (.cells #[.string T,.string N,.int .i64 (a:Int)] 262)).block _ (by have:=He.out;rw[H9.out]at this;omega)).trans BK.out))
       have Hg:=y4U (zK HO.out (bal H5 (.cells #[.string T,.string N,.int .i64 (a:Int)] 262))) (H6.mono zA) (fun k hk=>Nat.lt_of_lt_of_le (HS.out k hk) (by rw[H9.out];exact Nat.le_succ _));have kp:Kept w2 w3:=fun k c e fr hk h1 _=>(Hn k (lt_of_block hk) (y0s Hg hk (fun h=>h1 h.symm))).trans hk
       refine⟨⟨D,A++ps,st',by go_num,e4,Hy,z7 (by rw[zH,zo];exact H8),z7 (Ho.trans (.of Hb)),by rw[zH];exact k9.out.1,z7 (HI.out _ _ _ Hw Hb kp),z7 (bkz w3 Hk)⟩,?_⟩;simp only[intOf];have:=kU.out;omega
     . have Hi:E<D:=by omega
       rw[decide_eq_false kR]at kO;have Hy:Hid (R=walkS step b st' (A++ps ++ [mkP N]) (lnF (bl b) D)):=z7 (by rw[Ht.out,if_pos Hi,hN]);have kY:N.size<=1000000:=by omega
       have kA:A.length+ps.length<70368744177664:=HQ.out;have kz:(A.length+ps.length+1)*40<=140737488355328:=by have:=k9.out.1;omega
       have K9:=z7 kA;have kZ:=z7 kz;clear kA kz;clear hN Hr
       go_wp2_with (first
        | (go_at_call 310;(with_reducible refine(K2.out _).mono ?_);rintro e w1 ⟨rfl,H5⟩;obtain⟨p0,p0'⟩:=Live.fresh w1 #[.string T,.string N,.int .i64 (a:Int)] 262 0 _ rfl)
        | (go_at_call 242;refine(zi w3.heap.size 0 1 N _ (by simp) zA (by simp) kY).mono ?_;rintro e w4 ⟨rfl,Hj⟩)
        | (refine(Hu.out _ (HI.out _ _ _ Hs.out (((z8).trans (H5.mono H7)).alloc (zE H7 H5.size) _) (.of (bal H5 _))) (by rw[Y4];exact Nat.le_succ_of_le (zE H7 H5.size))).mono ?_;rintro e w2 ⟨H6,Hw,v2,rfl,Hf⟩)
        | (at_builtin;first
           | ((have Hh:wr.heap.size<=w2.heap.size:=zE H5.size (zE (by rw[Y4];exact Nat.le_succ _) H6.size));(have Hg:=y4U (zK HO.out (bal H5 (.cells #[.string T,.string N,.int .i64 (a:Int)] 262))) (H6.mono zA) (fun k hk=>Nat.lt_of_lt_of_le (HS.out k hk) (by rw[H9.out];exact Nat.le_succ _)));refine y0C rfl (.tmp 29) (.tmp 30) 88 173 rfl underlying88 Y3 3 40 infoLP rfl (by decide) w2 W.heap.size (.slice a1 A.length c1) A.length (pcC A) rfl Hg v2 ps.length (pcC ps) rfl Hf (y0N ps) (y5D ps) HQ.out kT.out (zE He.out Hh) ?_;intro v' w3 H8 Hk Hn;(have bk3:=(Hn w1.heap.size (by have:=H6.size;rw[Y4]at this;omega) (fun e=>by have:=(zf HO.out _ e.symm).2;have:=H5.size;omega)).trans ((H6.block w1.heap.size (by rw[Y4];exact Nat.lt_succ_self _) (fun h=>by have:=HS.out _ h;have:=H5.size;omega)).trans (heap_alloc_new w1 _)));obtain⟨p3,p3'⟩:=zL bk3 1 _ rfl;obtain⟨p4,p4'⟩:=zL bk3 0 _ rfl;have BK3:=z7 bk3;clear bk3)
           | ((refine zR rfl (.tmp 35) (.tmp 40) 88 173 rfl underlying88 Y3 3 40 infoLP rfl (by decide) w4 W.heap.size v' (A.length+ps.length) (pcC A++pcC ps) rfl (zK H8 (((z8).alloc zA _).trans (Hj.mono (by simp)))) #[.bool true,.string ⟨#[109,97,114,107]⟩,.string N] rfl (by simp[Value.oneCell']) rfl K9.out kZ.out (by have:=Hj.size;have:=Hk.size;have:=He.out;simp at *;omega) ?_);intro v'' w5 Hl kX kF;(have bk4:w4.heap[w1.heap.size]?=_:=(Hj.block _ (by rw[Y4];exact Nat.lt_succ_of_lt (Array.getElem?_eq_some_iff.1 BK3.out).1)).trans ((Below.heap_alloc w3 _ _ (Array.getElem?_eq_some_iff.1 BK3.out).1).trans BK3.out));have bk5:=(kF w1.heap.size (Array.getElem?_eq_some_iff.1 bk4).1 (y0s (zK H8 (((z8).alloc zA _).trans (Hj.mono (by simp)))) bk4 (by decide))).trans bk4;obtain⟨p5,p5'⟩:=zL bk5 1 _ rfl;obtain⟨p6,p6'⟩:=zL bk5 0 _ rfl;clear bk4 bk5))
        | fail)
       have Hh:wr.heap.size<=w2.heap.size:=zE H5.size (zE (by rw[Y4];exact Nat.le_succ _) H6.size);have Ho:=((HB.out.trans (.of (H5.mono H7))).al (zE H7 H5.size) (.cells #[.string T,.string N,.int .i64 (a:Int)] 262)).trans (H6.mono (zE H7 (by rw[Y4];exact Nat.le_succ_of_le H5.size)));have hz:W.heap.size<=w3.heap.size:=zE He.out (zE Hh Hk.size);have Hp:Below W.heap.size w2 w5:=((Hk.alloc hz (.cells #[.string N] 9)).trans (Hj.mono (by rw[Y4];exact Nat.le_succ_of_le hz))).trans kX;have Hb:Below w.heap.size w2 w5:=Hp.mono (by rw[H9.out];exact Nat.le_succ _);have bkz:∀X,Below W.heap.size w2 X->X.heap[w.heap.size]?=_:=fun X h=>(h.block _ (by rw[H9.out];exact Nat.lt_succ_self _)).trans ((H6.block _ (by have:=H5.size;rw[Y4];have:=He.out;rw[H9.out]at this;omega) (fun h=>by have:=HS.out _ h;omega)).trans (((bal H5 (.cells #[.string T,.string N,.int .i64 (a:Int)] 262)).block _ (by have:=He.out;rw[H9.out]at this;omega)).trans BK.out))
       have Hg:=y4U (zK HO.out (bal H5 (.cells #[.string T,.string N,.int .i64 (a:Int)] 262))) (H6.mono zA) (fun k hk=>Nat.lt_of_lt_of_le (HS.out k hk) (by rw[H9.out];exact Nat.le_succ _));have kp1:Kept w2 w3:=fun k c e fr hk h1 _=>(Hn k (lt_of_block hk) (y0s Hg hk (fun h=>h1 h.symm))).trans hk
       have kH:Below w3.heap.size w3 w4:=((z8).alloc zA _).trans (Hj.mono (by simp));have kp2:Kept w4 w5:=fun k c e fr hk h1 _=>(kF k (lt_of_block hk) (y0s (zK H8 kH) hk (fun h=>h1 h.symm))).trans hk
       have kp:=(kp1.trans (.of kH)).trans kp2;refine⟨⟨D,A++ps ++ [mkP N],st',by go_num,e4,Hy,z7 (by rw[zH,zH,zo,zo];exact Hl),z7 (Ho.trans (.of Hb)),by rw[zH,zH];exact k9.out.2 Hi,z7 (HI.out _ _ _ Hw Hb kp),z7 (bkz w5 Hp)⟩,?_⟩;simp only[intOf];have:=kU.out;omega
  . have Kc:a=b.size:=by omega
    have kP:R=.inl (st,A):=by rw[HA.out,y0u (bl b) a (by rw[HL.out];omega)];rfl
    have HZ:=z7 kP;obtain⟨q0,q0'⟩:=L0.out;obtain⟨q1,q1'⟩:=L1.out;clear kP HA;obtain⟨a1,c1,rfl⟩:=zN HO.out;go_wp2
    refine bodyPost_ret (v:=.tuple #[.slice a1 A.length c1,.agg #[.int .i64 0,.int .i64 0]]) (by simp[results,results240,go_sem,q0,q1,q0',q1']) rfl ?_;have hz:∀(c c':Value) k,k≠w.heap.size->((wr.setCell ⟨w.heap.size,0,none⟩ c).setCell ⟨w.heap.size,1,none⟩ c').heap[k]?=wr.heap[k]?:=fun c c' k hk=>by rw[Below.heap_setCell _ _ _ _ hk,Below.heap_setCell _ _ _ _ hk]
    refine⟨(((But.of kV.out).trans HB.out).cell zA _).cell zA _,.inr ⟨st,A,_,HZ.out,HI.out _ _ _ Hs.out (((Below.refl w.heap.size wr).setCell (p:=⟨w.heap.size,0,none⟩) (Nat.le_refl w.heap.size) _).setCell (p:=⟨w.heap.size,1,none⟩) (Nat.le_refl w.heap.size) _) (fun k c e fr hk _ h2=>(hz _ _ k (by rintro rfl;rw[BK.out]at hk;cases hk;exact h2 rfl)).trans hk),rfl,zd (za HO.out fun k hk=>hz _ _ k (by have:=(zf HO.out k hk).1;rw[H9.out]at this;omega)) (by rw[H9.out];exact Nat.le_succ _)⟩⟩
def outP{σ:Type}:(σ×List Pc) ⊕ Nat->List Pc ⊕ Nat
 | .inl p=>.inl p.2
 | .inr a=>.inr a
def ParsP(r:List Pc ⊕ Nat)(w:World)(e:Ending)(w':World):Prop:=
 Below w.heap.size w w'/\((∃a:Nat,r=.inr a/\e=.returned (.tuple #[.slice none 0 0,.agg #[.int .i64 1,.int .i64 a]])) \/
  ∃l v,r=.inl l/\e=.returned (.tuple #[v,.agg #[.int .i64 0,.int .i64 0]])/\w'.ownsRow w.heap.size 173 3 v l.length (pcC l))
def cueM(b:ByteArray):List Pc ⊕ Nat:=outP (walkS cueS b () [] (lnF (bl b) 0))
def lrcM(b:ByteArray):List Pc ⊕ Nat:=outP (walkS lrcS b () [] (lnF (bl b) 0))
theorem yBA(v:Value):(#[]:Array Value).push v++#[]=#[v]:=by simp
theorem But.nil{B:Nat}{w w':World}(h:But B (fun _=>False) w w'):Below B w w':=h.below zA (fun _ h=>h.elim)
theorem y7v(s:ByteArray):(cueL s).length<=2*s.size:=by
 have hL:=zJ s;have hw:(wdW (bl s)).length<=s.size:=by unfold wdW;rw[List.length_take,List.length_drop];omega
 have hv:∀n a b,(valP s n a b).length<=3:=by intro n a b;unfold valP;simp only[List.length_cons];split<;>simp
 unfold cueL;simp only;by_cases h1:wdI (bl s)=s.size
 . rw[if_pos h1];split
   . simp
   . simp;omega
 . rw[if_neg h1]
   by_cases h2:wdJ (bl s)=s.size
   . rw[if_pos h2];have:=yDV (bl s);simp;omega
   . have hj:=y4p (bl s)
     have H5:1<=s.size:=by omega
     rw[if_neg h2];have hn:∀x:List UInt8,wdW (bl s)=x->x.length<=s.size:=fun x h=>by rw[<-h];exact hw
     split
     . rename_i h;have:=hn _ h;simp[remL]at this ⊢;omega
     . split
       . rename_i h;have:=hn _ h;have:=hv tiN (wdJ (bl s)+1) s.size;simp[titL]at *;omega
       . split
         . rename_i h;have:=hn _ h;have:=hv peN (wdJ (bl s)+1) s.size;simp[perL]at *;omega
         . split
           . rename_i h;have:=hn _ h;have:=hv soN (wdJ (bl s)+1) s.size;simp[sonL]at *;omega
           . split
             . rename_i h
               have h4:4<=s.size:=hn _ h;split
               . rename_i k _;have:=hv fiN (wdJ (bl s)+1) (wdJ (bl s)+1+k);omega
               . simp
             . simp;omega
theorem y0r{w1:World}{b e k n:Nat}{v x y:Value}{cs:List Value}(h:w1.ownsRow (b+1) e k v n cs):((w1.setCell ⟨b,0,none⟩ x).setCell ⟨b,1,none⟩ y).ownsRow b e k v n cs:=
 zd (za h fun j hj=>by
  have:=(zf h j hj).1;rw[Below.heap_setCell _ _ _ _ (by show j≠b;omega),Below.heap_setCell _ _ _ _ (by show j≠b;omega)]) (Nat.le_succ _)
theorem zh{B:Nat}{w w1:World}{x y:Value}(h:Below B w w1)(b:Nat)(hB:B<=b):Below B w ((w1.setCell ⟨b,0,none⟩ x).setCell ⟨b,1,none⟩ y):=(h.setCell (p:=⟨b,0,none⟩) hB x).setCell (p:=⟨b,1,none⟩) hB y
theorem yGF(W:World)(hG:GW W):yDO 165 #[] #[] cueS (fun _ w=>Below W.heap.size W w) W.heap.size (fun _=>False):=by
 intro st s w hW hB hs;rw[yBA];refine(yAX s w (hG.bel hW) hs).mono fun e w' ⟨⟨x,he,hr⟩,hb⟩=>⟨.of hb,?_⟩
 unfold cueS;cases hc:y3O (bl s)with
 | false=>exact .inl ⟨rfl,x,by rw[he,hc]⟩
 | true=>exact .inr ⟨(),cueL s,x,rfl,hW.trans (hb.mono hB),by rw[he,hc],hr hc⟩
theorem y84(F:FuncId)(hF:∀args w,(callFunc F args).run prog w=.ok (.enter F args) w)(step:Unit->ByteArray->Option (Unit×List Pc))(b:ByteArray)(W:World)(hs:b.size<=1000000)(H5:∀st s st' ps,step st s=some (st',ps)->ps.length<=2*s.size)
 (hK:yDO F #[] #[] step (fun _ w=>Below W.heap.size W w) W.heap.size (fun _=>False)):Calls prog 240 #[.string b,.func (.func F) #[] #[]] W (ParsP (outP (walkS step b () [] (lnF (bl b) 0))) W):=by
 refine(y6o F #[] #[] hF step (fun _ w=>Below W.heap.size W w) (fun _=>False) b () W hs H5 (fun _ w1 w2 h1 h2 _=>h1.trans h2) (fun _ h=>h.elim) hK z8).mono fun e w' ⟨h1,h2⟩=>⟨h1.nil,?_⟩
 rcases h2 with⟨a,h3,h4⟩|⟨st,l,v,h3,_,h4,h5⟩
 . exact .inl ⟨a,by rw[h3];rfl,h4⟩
 . exact .inr ⟨l,v,by rw[h3];rfl,h4,h5⟩
theorem yD6(b:ByteArray)(w:World)(hG:GW w)(hs:b.size<=1000000):Calls prog 156 #[.string b] w (ParsP (cueM b) w):=by
 obtain⟨R,hR⟩:∃R,R=cueM b:=⟨_,rfl⟩;rw[<-hR];obtain⟨W,hW⟩:∃W,W=w.alloc (.cells #[.int .i64 0,.int .i64 0] 40):=⟨_,rfl⟩;have H8:Below w.heap.size w W:=by rw[hW];exact bal z8 _
 have H9:W.heap.size=w.heap.size+1:=by rw[hW,Y4]
 have lf:=Live.fresh w #[.int .i64 0,.int .i64 0] 40
 rw[<-hW]at lf;have m0:=lf 0 _ rfl;have m1:=lf 1 _ rfl;have kw:Calls prog 240 #[.string b,.func (.func 165) #[] #[]] W (ParsP R W):=by
  rw[hR];exact y84 165 (enters_of func165 (by kernel_rfl) rfl) cueS b W hs (fun st s st' ps h=>by unfold cueS at h;split at h<;>cases h;exact y7v s) (yGF W (hG.bel H8))
 have KW:=z7 kw;have H6:=z7 H8;have M0:=z7 m0;have M1:=z7 m1;have Ha:=z7 H9;clear kw H8 m0 m1 H9;clear hR lf
 go_enter func156,ntmps156
 go_wp2_with fail
 rw[<-hW];clear hW
 go_wp2_with (go_at_call 240;refine(KW.out).mono ?_;rintro e w1 ⟨H5,h⟩;obtain⟨q0,q0'⟩:=M0.out.keep H5;obtain⟨q1,q1'⟩:=M1.out.keep H5;rcases h with⟨a,h3,rfl⟩|⟨l,v,h3,rfl,H7⟩)
 . skip
   refine bodyPost_ret (v:=.tuple #[.slice none 0 0,.agg #[.int .i64 1,.int .i64 a]]) (by simp[results,results156,go_sem,q0,q1,q0',q1']) rfl ?_;exact⟨zh (H6.out.trans (H5.mono H6.out.size)) _ zA,.inl ⟨a,h3,rfl⟩⟩
 . skip
   refine bodyPost_ret (v:=.tuple #[v,.agg #[.int .i64 0,.int .i64 0]]) (by simp[results,results156,go_sem,q0,q1,q0',q1']) rfl ?_;exact⟨zh (H6.out.trans (H5.mono H6.out.size)) _ zA,.inr ⟨l,v,h3,rfl,y0r (by rw[<-Ha.out];exact H7)⟩⟩
def tMo(p q r:Bool):Told:={ c:=[(164,[.a (.sym 0),.a (lS mi1)],one1 (lB p)),(164,[.a (.sym 0),.a (lS mi2)],one1 (lB q)),(164,[.a (.sym 0),.a (lS mi3)],one1 (lB r))] }
theorem rMo(p q r:Bool):symEv (tMo p q r) 371 [.a (.sym 0)]=some (one1 (lB (p || q || r))):=by cases p<;>cases q<;>cases r<;>kernel_rfl
theorem yAC(s:ByteArray)(w:World)(hG:GW w)(hs:s.size<=1000000):Calls prog 371 #[.string s] w fun e w'=>e=.returned (.bool (momB (bl s)))/\Below w.heap.size w w':=by
 letI:=sgL [.string s] ⟨zU _,trivial⟩
 have kl:∀(f:List UInt8),f.length<=1000->COk w (164,[.a (.sym 0),.a (lS f)],one1 (lB (zW (bl s) f))):=fun f hf=>
  ⟨[.string s,.string ⟨⟨f⟩⟩],_,fun _=>rfl,fun _=>rfl,fun w' _=>y0v s ⟨⟨f⟩⟩ w' hs (by show f.length<=_;omega)⟩
 exact y0W (vals:=[.string s]) hG (T:=tMo (zW (bl s) mi1) (zW (bl s) mi2) (zW (bl s) mi3)) ⟨trivial,trivial,trivial,trivial,⟨kl mi1 (by decide),kl mi2 (by decide),kl mi3 (by decide),trivial⟩,trivial,trivial⟩ rfl (rMo _ _ _) (fun _=>rfl)
theorem pre1(l:List UInt8)(c:UInt8):Lib.hasPrefix l [c]=(l.head?==some c):=by
 cases l with
 | nil=>rfl
 | cons b l=>
  show(c==b&&true)=(some b==some c);rw[Bool.and_true,Bool.eq_iff_iff,beq_iff_eq,beq_iff_eq,Option.some.injEq];exact eq_comm
theorem y5Q(s:ByteArray)(w:World)(hG:GW w)(hs:s.size<=1000000):Calls prog 317 #[.string s] w fun e w'=>e=.returned (.int .i64 (momN (bl s)))/\Below w.heap.size w w':=by
 have HL:Hid ((bl s).length=s.size):=zJ s;have KP:=z7 (fun w=>(Tryz.strings_HasPrefix s ⟨#[91]⟩ w));obtain⟨R,hR⟩:∃R,R=momN (bl s):=⟨_,rfl⟩;rw[<-hR];have hp:Lib.hasPrefix (s.data.toList) (⟨#[91]⟩:ByteArray).data.toList=((bl s).head?==some 91):=pre1 (bl s) 91;cases hh:((bl s).head?==some (91:UInt8))with
 | false=>
  rw[hh]at hp;rw[hp]at KP;have Hd:R=0:=by rw[hR];unfold momN;simp only;rw[if_neg (fun h=>by rw[h.1]at hh;cases hh)]
  subst Hd;clear hR hp hh
  go_enter func317,ntmps317
  go_wp2_with (go_at_call 82;refine(KP.out _).mono ?_;rintro e w1 ⟨rfl,rfl⟩)
  go_ret
  exact⟨rfl,z8⟩
 | true=>
  rw[hh]at hp;rw[hp]at KP;obtain⟨Q,hQ⟩:∃Q,Q=s.extract 0 (min (s.size:Int) 11).toNat:=⟨_,rfl⟩;have H7:bl Q=(bl s).take 11:=by
   rw[hQ,y1N,List.drop_zero,Nat.sub_zero];by_cases h:s.size<=11
   . rw[List.take_of_length_le (by rw[HL.out];omega),List.take_of_length_le (by rw[HL.out];omega)]
   . congr 1;omega
  have ki:∀w,Calls prog 370 #[.string (s.extract 0 (min (s.size:Int) 11).toNat),.string ⟨#[93]⟩] w fun e w'=>e=.returned (.int .i64 (Lib.indexByte (bl Q) 93))/\w'=w:=fun w=>by rw[<-hQ];exact Tryz.strings_Index_one Q 93 w
  have H5:=ixB (bl Q) 93;have H6:(bl s).head?=some 91:=by simpa using hh
  unfold momN at hR;simp only at hR;rw[<-H7]at hR;obtain⟨n,hn⟩:∃n,n=((bl Q).takeWhile fun x=>!(x==93)).length:=⟨_,rfl⟩;rw[<-hn]at hR H5;by_cases hc:(bl Q).contains 93
  . rw[if_pos hc]at H5
    have H8:n<(bl Q).length:=by
     rw[hn];rcases Nat.lt_or_ge ((bl Q).takeWhile fun x=>!(x==93)).length (bl Q).length with h|h
     . exact h
     . exfalso
       have:=List.contains_iff_mem.1 hc;have e:(bl Q).takeWhile (fun x=>!(x==93))=bl Q:=(List.takeWhile_prefix _).eq_of_length (Nat.le_antisymm (List.takeWhile_sublist _).length_le h);rw[<-e]at this;have h2:=List.all_eq_true.1 (List.all_takeWhile (p:=fun x=>!(x==93)) (l:=bl Q)) _ this;simp at h2
    have Hb:1<=n:=by
     rw[hn];cases hb:bl s with
     | nil=>rw[hb]at H6;cases H6
     | cons y l=>
      rw[hb]at H6;cases H6;rw[H7,hb];simp
    have Ha:n<s.size:=by rw[H7,List.length_take,HL.out]at H8;omega
    rw[H5]at ki;have km:∀w',Below w.heap.size w w'->Calls prog 371 #[.string (s.extract 1 n)] w' fun e w''=>e=.returned (.bool (momB (((bl s).take n).drop 1)))/\Below w'.heap.size w' w'':=fun w' hb=>by
     have:=yAC (s.extract 1 n) w' (hG.bel hb) (by rw[zG];omega)
     rwa [show bl (s.extract 1 n)=((bl s).take n).drop 1 by rw[y1N,List.drop_take]]at this
    have e0:(0:Int)<=(n:Int):=by omega
    have e1:(1:Int)<=(n:Int):=by omega
    have e2:(n:Int)<=(s.size:Int):=by omega
    have e3:((n:Int)<0)=False:=by simp
    have e4:IntKind.i64.wrap ((n:Int)+1)=(n:Int)+1:=wi64 _ (by omega) (by omega);cases hm:momB (((bl s).take n).drop 1)with
    | true=>
     rw[hm]at km;rw[if_pos ⟨H6,H8,hm⟩]at hR;have KI:=z7 ki;have KM:=z7 km;have Hc:(R:Int)=(n:Int)+1:=by omega
     rw[Hc];clear hR Hc hm km ki Hb Ha H8 hc hn H5 H7 hQ H6 hp hh
     go_enter func317,ntmps317
     go_wp2_with (first
      | (go_at_call 82;refine(KP.out _).mono ?_;rintro e w1 ⟨rfl,rfl⟩)
      | (go_at_call 370;refine(KI.out _).mono ?_;rintro e w1 ⟨rfl,rfl⟩)
      | (go_at_call 371;refine(KM.out _ z8).mono ?_;rintro e w1 ⟨rfl,H9⟩))
     go_ret
     exact⟨rfl,H9⟩
    | false=>
     rw[hm]at km;rw[if_neg (fun h=>by rw[hm]at h;cases h.2.2)]at hR;have KI:=z7 ki;have KM:=z7 km;subst hR;clear hm km ki Hb Ha H8 hc hn H5 H7 hQ H6 hp hh
     go_enter func317,ntmps317
     go_wp2_with (first
      | (go_at_call 82;refine(KP.out _).mono ?_;rintro e w1 ⟨rfl,rfl⟩)
      | (go_at_call 370;refine(KI.out _).mono ?_;rintro e w1 ⟨rfl,rfl⟩)
      | (go_at_call 371;refine(KM.out _ z8).mono ?_;rintro e w1 ⟨rfl,H9⟩))
     go_ret
     exact⟨rfl,H9⟩
  . rw[if_neg hc]at H5
    have ha:(bl Q).all (fun x=>!(x==93))=true:=by
     rw[List.all_eq_true];intro x hx;have:x≠93:=by rintro rfl;exact hc (List.contains_iff_mem.2 hx)
     simpa using this
    rw[if_neg (fun h=>by rw[hn,y4s _ _ ha]at h;exact absurd h.2.1 (Nat.lt_irrefl _))]at hR;rw[H5]at ki;have KI:=z7 ki;subst hR;clear ki hc hn H5 H7 hQ H6 hp hh ha
    go_enter func317,ntmps317
    go_wp2_with (first
     | (go_at_call 82;refine(KP.out _).mono ?_;rintro e w1 ⟨rfl,rfl⟩)
     | (go_at_call 370;refine(KI.out _).mono ?_;rintro e w1 ⟨rfl,rfl⟩))
    go_ret
    exact⟨rfl,z8⟩
def LP(F:FuncId)(s:ByteArray)(w:World)(b:Bool)(L:List Pc):Prop:=Calls prog F #[.string s] w fun e w'=>(∃x,e=.returned (.tuple #[x,.bool b])/\(b=true->y1q w' x L.length (pcC L)))/\Below w.heap.size w w'
theorem y0t(n t:ByteArray)(w:World)(hG:GW w):Calls prog 243 #[.string n,.string t] w fun e w'=>e=.returned (.agg #[.bool false,.string n,.string t])/\Below w.heap.size w w':=by
 letI:=sgL [.string n,.string t] ⟨zU _,zU _,trivial⟩
 exact y0W (args:=[.a (.sym 0),.a (.sym 1)]) (vals:=[.string n,.string t]) hG (T:={}) (r:=.o (.g [lB false,.sym 0,.sym 1])) ⟨trivial,trivial,trivial,trivial,trivial,trivial,trivial⟩ rfl (by kernel_rfl) (fun _=>rfl)
def okO:Option (Unit×List Pc)->Bool
 | some _=>true
 | none=>false
def psO:Option (Unit×List Pc)->List Pc
 | some p=>p.2
 | none=>[]
theorem y4u(s:ByteArray)(a k:Nat)(h:momN ((bl s).drop a)=0):zm k s a=([],a):=by
 cases k with
 | zero=>rfl
 | succ k=>rw[zm,if_pos h]
theorem yA6(s:ByteArray)(w:World)(hG:GW w)(hs:s.size<=1000000)(H6:∀w',Below w.heap.size w w'->LP 318 s w' (noteOk (bl s)) (notP s)):
 LP 247 s w (okO (lrcS () s)) (psO (lrcS () s)):=by
 unfold LP;have HL:Hid ((bl s).length=s.size):=zJ s;by_cases h0:s.size=0
 . have e0:lrcS () s=some ((),[]):=by unfold lrcS;rw[if_pos h0]
   rw[e0];show Calls _ _ _ _ fun e w'=>(∃x,e=.returned (.tuple #[x,.bool true])/\(true=true->y1q w' x 0 []))/\Below w.heap.size w w'
   have hE:s.toList.isEmpty=true:=by rw[ByteArray.toList_eq,List.isEmpty_iff];exact List.eq_nil_of_length_eq_zero (by rw[show s.data.toList.length=s.size from zJ s];exact h0)
   clear h0 H6
   go_enter func247,ntmps247
   go_wp2_with fail
   go_ret2
   exact⟨⟨_,rfl,fun _=>.inl ⟨rfl,rfl,rfl⟩⟩,z8⟩
 . have hE:s.toList.isEmpty=false:=by rw[<-Bool.not_eq_true,ByteArray.toList_eq,List.isEmpty_iff];exact fun h=>h0 (by rw[<-show s.data.toList.length=s.size from zJ s,h];rfl)
   obtain⟨V,hV⟩:∃V,V=lrcS () s:=⟨_,rfl⟩;rw[<-hV];unfold lrcS at hV;rw[if_neg h0]at hV;simp only at hV;obtain⟨VB,Hn⟩:∃x,x=okO V:=⟨_,rfl⟩;obtain⟨VL,Hm⟩:∃x,x=psO V:=⟨_,rfl⟩;rw[<-Hn,<-Hm];have Ho:=z7 Hn;have Hj:=z7 Hm;clear Hn Hm;have HV:=z7 hV;have HG:=z7 hG;have HN:=z7 H6;clear hV h0 hG H6
   go_enter func247,ntmps247
   go_wp2_with (go_at_call 317;refine(y5Q s _ HG.out hs).mono ?_;rintro e w1 ⟨rfl,Hh⟩)
   go_loopw [4,5,6] (fun v rv nv wr=>∃(a k:Nat) (A:List Pc) (R:ByteArray),rv=.string R/\nv=.int .i64 (momN (bl R):Nat)/\a<=s.size/\s.size<=k+a/\Hid (bl R=(bl s).drop a)/\R.size=s.size-a/\Hid (zm s.size s 0=(A++(zm k s a).1,(zm k s a).2))/\Hid (wr.ownsRow w.heap.size 173 3 v A.length (pcC A))/\Hid (Below w.heap.size w wr)/\A.length<=a/\Hid (A = []↔a=0)) (fun _ rv _ _=>match rv with | .string R=>R.size|_=>0)
   case atStart=>exact⟨0,s.size,[],s,rfl,rfl,zD,zA,z7 (by simp),rfl,z7 (by simp),z7 (World.ownsRow_nil _ _ _ _),z7 Hh,zD,z7 ⟨fun _=>rfl,fun _=>rfl⟩⟩
   case round=>
    obtain⟨a,k,A,R,rfl,rfl,ha,hk,HR,Hu,HT,HO,HB,kJ,ky⟩:=hrel;obtain⟨n,hn⟩:∃n,n=momN (bl R):=⟨_,rfl⟩;rw[<-hn];have Hr:n<=R.size:=by rw[hn,<-zJ];exact yA3 _
    obtain⟨a1,c1,rfl⟩:=zN HO.out;have H8:w.heap.size<=wr.heap.size:=HB.out.size;by_cases hz:n=0
    . have H7:=HT.out
      rw[y4u s a k (by rw[<-HR.out,<-hn];exact hz),List.append_nil]at H7;have hv:=HV.out;rw[H7]at hv;simp only at hv;subst hz;have Hb:A.length<70368744177664:=by omega
      by_cases Ha:a=0
      . have kC:A = []:=ky.out.2 Ha
        rw[if_pos Ha]at hv;subst kC;have kn:=HN.out wr HB.out;unfold LP at kn;have KN:=z7 kn;have kD:=z7 hv;clear hv H7 kn hn Ha
        go_wp2_with (go_at_call 318;refine(KN.out).mono ?_;rintro e w2 ⟨⟨x,rfl,hx⟩,Ht⟩)
        go_ret2
        have hv:=kD.out;cases Hk:noteOk (bl s)with
        | true=>rw[Hk,if_pos rfl]at hv;rw[Ho.out,Hj.out,hv];exact⟨⟨x,rfl,fun _=>hx Hk⟩,HB.out.trans (Ht.mono H8)⟩
        | false=>rw[Hk,if_neg (by decide)]at hv;rw[Ho.out,Hj.out,hv];exact⟨⟨x,rfl,fun e=>by cases e⟩,HB.out.trans (Ht.mono H8)⟩
      . rw[if_neg Ha]at hv
        have kM:¬A.length=0:=fun e=>Ha (ky.out.1 (List.eq_nil_of_length_eq_zero e))
        have kK:((A.length:Int)==0)=false:=by rw[Y2];omega
        have Hv:R.toList.isEmpty=decide (a=s.size):=by
         rw[ByteArray.toList_eq,Bool.eq_iff_iff,List.isEmpty_iff,decide_eq_true_iff,<-List.length_eq_zero_iff];show R.size=0↔_;omega
        have Hh:VB=true:=by rw[Ho.out,hv];rfl
        by_cases Hi:a=s.size
        . rw[decide_eq_true Hi]at Hv
          have Hc:VL=A:=by rw[Hj.out,hv];show A++_=A;rw[if_neg (by omega),List.append_nil]
          have Hq:=z7 Hc;subst Hh;clear Hc hv H7 hn Ha Hi
          go_wp2_with fail
          go_ret2
          exact⟨⟨_,rfl,by rw[Hq.out];exact zZ HO.out⟩,HB.out⟩
        . rw[decide_eq_false Hi]at Hv
          have Hc:VL=A ++ [txP teN R]:=by
           rw[Hj.out,hv];show A++_=_;rw[if_pos (by omega)];rw[show s.extract a s.size=R from by apply ByteArray.ext;apply Array.ext';show bl (s.extract a s.size)=bl R;rw[y1o,HR.out]]
          have Hq:=z7 Hc;have kt:=fun w' h=>y0t teN R w' (HG.out.bel (w':=w') h)
          have KT:=z7 kt;have Hl:(A.length+1)*40<=140737488355328:=by omega
          subst Hh;clear Hc hv H7 hn Ha Hi kt
          go_wp2_with (first
           | (go_at_call 243;refine(KT.out _ HB.out).mono ?_;rintro e w4 ⟨rfl,H9⟩)
           | (at_builtin;refine zR rfl _ _ 88 173 rfl underlying88 Y3 3 40 infoLP rfl (by decide) w4 w.heap.size (.slice a1 A.length c1) A.length (pcC A) rfl (zK HO.out H9) #[.bool false,.string teN,.string R] rfl (by simp[Value.oneCell']) rfl Hb Hl (zE H8 H9.size) ?_;intro v' w5 H5 Hd kz)
           | fail)
          go_ret2
          exact⟨⟨_,rfl,by rw[Hq.out,zH,zo];exact zZ H5⟩,(HB.out.trans (H9.mono H8)).trans Hd⟩
    . have kI:0<n:=by omega
      obtain⟨k,rfl⟩:∃k',k=k'+1:=⟨k-1,by omega⟩;obtain⟨M,hM⟩:∃M,M=R.extract 0 n:=⟨_,rfl⟩;obtain⟨R2,Hg⟩:∃R2,R2=R.extract n R.size:=⟨_,rfl⟩;have Hy:M=s.extract a (a+n):=by
       apply ByteArray.ext;apply Array.ext';show bl M=bl _;rw[hM,y1N,y1N,HR.out,List.drop_zero,Nat.sub_zero,Nat.add_sub_cancel_left]
      have Hf:bl R2=(bl s).drop (a+n):=by rw[Hg,y1o,HR.out,List.drop_drop]
      have He:R2.size=s.size-(a+n):=by rw[Hg,zG];omega
      have Hw:M.size<=1000000:=by rw[hM,zG];omega
      have H7:=HT.out;rw[zm,if_neg (by rw[<-HR.out,<-hn];exact hz)]at H7;simp only at H7;rw[<-HR.out,<-hn,<-Hy]at H7;have kF:Hid (zm s.size s 0=((A ++ [mkP M])++(zm k s (a+n)).1,(zm k s (a+n)).2)):=z7 (by rw[H7,List.append_assoc];rfl);have km:=fun w' h=>y5Q R2 w' (HG.out.bel (w':=w') h) (by omega)
      have e0:(n:Int) > 0:=by omega
      have e1:(0:Int)<=(n:Int):=by omega
      have e2:(n:Int)<=(R.size:Int):=by omega
      have Hb:A.length<70368744177664:=by omega
      have Hl:(A.length+1)*40<=140737488355328:=by omega
      have kH:=z7 Hf;have Hz:=z7 He;have kx:=z7 Hw;have KM:=z7 km;have k9:=z7 Hr;have HQ:=z7 Hu;clear Hf He Hw km H7 Hy hn hz Hr Hu;have HM:=z7 hM;have Hp:=z7 Hg;rw[hM]at kx;rw[Hg]at KM;clear hM Hg
      go_wp2_with (first
       | (go_at_call 242;refine(zi wr.heap.size 0 1 (R.extract 0 n) _ (by simp) zA (by simp) kx.out).mono ?_;rintro e w4 ⟨rfl,H9⟩)
       | (go_at_call 317;(refine(KM.out _ (((HB.out.alloc H8 (.cells #[.string (R.extract 0 n)] 9)).trans (H9.mono (by rw[Y4];exact Nat.le_succ_of_le H8))).trans Hd)).mono ?_);rintro e w6 ⟨rfl,Hs⟩)
       | (at_builtin;refine zR rfl _ _ 88 173 rfl underlying88 Y3 3 40 infoLP rfl (by decide) w4 w.heap.size (.slice a1 A.length c1) A.length (pcC A) rfl (zK HO.out (((z8).alloc zA _).trans (H9.mono (by simp)))) #[.bool true,.string ⟨#[109,97,114,107]⟩,.string (R.extract 0 n)] rfl (by simp[Value.oneCell']) rfl Hb Hl (zE H8 (zE (by simp) H9.size)) ?_;intro v' w5 H5 Hd kz)
       | fail)
      have kA:=(((HB.out.alloc H8 (.cells #[.string (R.extract 0 n)] 9)).trans (H9.mono (by rw[Y4];exact Nat.le_succ_of_le H8))).trans Hd).trans (Hs.mono (zE H8 (zE (by simp) (zE H9.size Hd.size))));rw[<-HM.out]at H5;go_roundw
      case rel=>exact⟨a+n,k,A ++ [mkP M],R2,by rw[Hp.out],by rw[Hp.out],by have:=HQ.out;have:=k9.out;omega,by omega,kH,Hz.out,kF,z7 (by rw[zH,zo];exact zK H5 Hs),z7 kA,by rw[zH];simp;omega,z7 ⟨fun h=>by simp at h,fun h=>by omega⟩⟩
      case measure=>
       have:=Hz.out;have:=HQ.out;have:=k9.out;rw[Hp.out]at *;simp;omega
