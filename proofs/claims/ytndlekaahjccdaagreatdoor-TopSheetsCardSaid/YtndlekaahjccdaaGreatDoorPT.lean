/- PT -/
import Derived.Test.YtndlekaahjccdaaGreatDoorPS
set_option linter.all false
set_option maxRecDepth 100000
set_option maxHeartbeats 40000000
namespace Go.Proofs.YtndlekaahjccdaaGreatDoor
open Go Go.Rf Go.RowKit Go.Proofs.Tryz
theorem y5e:∀(b:Bool) (F P:List ByteArray),P.length<F.length->evG b F P=none
 | b,[],P,h=>by simp at h
 | b,f::fs,[],h=>rfl
 | b,f::fs,p::ps,h=>by
  unfold evG;rw[y5e true fs ps (by simpa using h)];split
  . rename_i h2;cases h2
  . rfl
def evX(f p:ByteArray):Option Pc:=if bl f=staN\/bl f=endN then(if zW (bl p) mo1=true then some (mkP p)else none)else some (txP f p)
theorem y7o{b:Bool}{F P:List ByteArray}{i:Nat}{f p:ByteArray}(hf:F[i]?=some f)(hp:P[i]?=some p)(h:evX f p=none):evG b (F.drop i) (P.drop i)=none:=by
 obtain⟨a1,a2⟩:=List.getElem?_eq_some_iff.1 hf;obtain⟨b1,b2⟩:=List.getElem?_eq_some_iff.1 hp;rw[List.drop_eq_getElem_cons a1,List.drop_eq_getElem_cons b1,a2,b2];unfold evG;rw[show(if bl f=staN\/bl f=endN then(if zW (bl p) mo1=true then some (mkP p)else none)else some (txP f p))=none from h]
theorem y2P{b:Bool}{F P:List ByteArray}{i:Nat}{f p:ByteArray}{x:Pc}{A:List Pc}(hf:F[i]?=some f)(hp:P[i]?=some p)(h:evX f p=some x):(evG b (F.drop i) (P.drop i)).map (A ++ ·)=(evG true (F.drop (i+1)) (P.drop (i+1))).map ((A++(if b=true then [mkP coB]else []) ++ [x]) ++ ·):=by
 obtain⟨a1,a2⟩:=List.getElem?_eq_some_iff.1 hf;obtain⟨b1,b2⟩:=List.getElem?_eq_some_iff.1 hp;rw[List.drop_eq_getElem_cons a1,List.drop_eq_getElem_cons b1,a2,b2]
 conv=>lhs;unfold evG
 rw[show(if bl f=staN\/bl f=endN then(if zW (bl p) mo1=true then some (mkP p)else none)else some (txP f p))=some x from h];cases evG true (F.drop (i+1)) (P.drop (i+1))with
 | none=>rfl
 | some l=>cases b<;>simp
structure ScI (c:Nat) (ev:Bool) (fs:Option (List ByteArray)) (w:World):Prop where
 blk:∃fv,w.heap[c]?=some (.cells #[.bool ev,.bool fs.isSome,fv] 269 (0,0))/\∀F,fs=some F->∃bf cap cs,fv=.slice (some ⟨bf,0,none⟩) F.length cap/\F ≠ []/\w.heap[bf]?=some (.cells cs 9 (0,0))/\∀(i:Nat) f,F[i]?=some f->cs[i]?=some (.string f)
theorem ScI.kept{c:Nat}{ev:Bool}{fs:Option (List ByteArray)}{w w':World}(h:ScI c ev fs w)(hk:Kept w w'):ScI c ev fs w':=by
 obtain⟨fv,h1,h2⟩:=h.blk;refine⟨fv,hk _ _ _ _ h1 (by decide) (by decide),fun F hF=>?_⟩;obtain⟨bf,cap,cs,h3,h4,h5,h6⟩:=h2 F hF;exact⟨bf,cap,cs,h3,h4,hk _ _ _ _ h5 (by decide) (by decide),h6⟩
theorem y9Y(v:ByteArray)(n:Nat)(w:World)(hT:TW w)(hs:v.size<=1000000)(hn:1<=n)(H5:n<=1000001):Calls prog 369 #[.string v,.string coB,.int .i64 (n:Int)] w fun e w'=>
 e=.returned (.slice (some ⟨w.heap.size,0,none⟩) (cutN v n).length (min n (v.size+1)))/\Below w.heap.size w w'/\w'.heap[w.heap.size]?=some (.cells (Lib.cellsOf (cutN v n) (min n (v.size+1))) 9 (0,0)):=by
 obtain⟨m,hm⟩:=hT.ml;exact(Tryz.strings_SplitN v coB n m w (by omega) hm (by decide) hn (by omega)).mono fun e w' ⟨h1,h2⟩=>⟨h1,by rw[h2];exact bal z8 _,by rw[h2];exact heap_alloc_new _ _⟩
theorem yDF(P:List ByteArray)(N i:Nat)(p:ByteArray)(h:P[i]?=some p):(Lib.cellsOf P N)[i]?=some (.string p):=by
 unfold Lib.cellsOf;rw[List.getElem?_toArray,List.getElem?_append_left (by rw[List.length_map];exact(List.getElem?_eq_some_iff.1 h).1),List.getElem?_map,h];rfl
def EvP(r:Option (List Pc))(w:World)(e:Ending)(w':World):Prop:=Below w.heap.size w w'/\((r=none/\∃x,e=.returned (.tuple #[x,.bool false]))\/∃l v,r=some l/\e=.returned (.tuple #[v,.bool true])/\y1q w' v l.length (pcC l))
theorem yFr(c:Nat)(ev:Bool)(fs:Option (List ByteArray))(h v:ByteArray)(w:World)(hG:GW w)(hI:ScI c ev fs w)(hF:∀F,fs=some F->F.length<=1000001)(hh:h.size<=1000000)(hs:v.size<=1000000):
 Calls prog 315 #[.pointer (some ⟨c,0,none⟩),.string h,.string v] w (EvP (evP fs h v) w):=by
 obtain⟨R,hR⟩:∃R,R=evP fs h v:=⟨_,rfl⟩;rw[<-hR];obtain⟨fv,h1,h2⟩:=hI.blk;cases fs with
 | none=>
  have HQ:R=none:=hR;subst HQ;obtain⟨c1,c1'⟩:=zL h1 1 _ rfl;clear h1 h2 hR
  go_enter func315,ntmps315
  go_wp2_with fail
  go_ret2
  exact⟨z8,.inl ⟨rfl,_,rfl⟩⟩
 | some F=>
  obtain⟨bf,cap,cs,rfl,kx,kA,kz⟩:=h2 F rfl;have kV:=hF F rfl;obtain⟨c1,c1'⟩:=zL h1 1 _ rfl;obtain⟨c2,c2'⟩:=zL h1 2 _ rfl;have kJ:1<=F.length:=List.length_pos_iff.2 kx;obtain⟨P,hP⟩:∃P,P=cutN v F.length:=⟨_,rfl⟩;have K9:P.length<=F.length:=by rw[hP,yAW];have:=Lib.splitB_length_le coB 0 (F.length-1) v;omega
  have kC:∀p∈P,p.size<=1000000:=fun p hp=>zE (y1C _ v p (by rw[hP]at hp;exact hp)) hs
  have kN:=y9Y v F.length w hG.tw hs kJ kV;rw[<-hP]at kN;have Hs:R=(evG false F P).map (mkP h :: ·):=by
   rw[hR];show(match evG false F (cutN v F.length)with|some l=>some (mkP h::l)|none=>none)=_;rw[<-hP];cases evG false F P<;>rfl
  have HC:=z7 h1;have kH:=z7 kA;have kF:=z7 kz;have kZ:=z7 kC;have KN:=z7 kN;have HG:=z7 hG;have l0:(1:Int)<=(F.length:Int):=by omega
  clear h1 h2 hI kA kz hR hF kC hP kN hG kx;by_cases kK:P.length<F.length
  . have HQ:R=none:=by rw[Hs,y5e _ _ _ kK];rfl
    subst HQ;have l1:(P.length:Int)<(F.length:Int):=by omega
    clear Hs
    go_enter func315,ntmps315
    go_wp2_with (go_at_call 369;refine(KN.out).mono ?_;rintro e w1 ⟨rfl,Ha,Ht⟩;have bk1:=(Ha.block _ (lt_of_block HC.out)).trans HC.out;obtain⟨d2,d2'⟩:=zL bk1 2 _ rfl)
    go_ret2
    exact⟨Ha,.inl ⟨rfl,_,rfl⟩⟩
  . have Ka:P.length=F.length:=by omega
    have l1:¬(P.length:Int)<(F.length:Int):=by omega
    have kY:=z7 Hs;clear Hs
    go_enter func315,ntmps315
    go_wp2_with (first
     | (go_at_call 369;refine(KN.out).mono ?_;rintro e w1 ⟨rfl,Ha,Ht⟩;have bk1:=(Ha.block _ (lt_of_block HC.out)).trans HC.out;obtain⟨d2,d2'⟩:=zL bk1 2 _ rfl)
     | (go_at_call 242;refine(zi w1.heap.size 0 1 h _ (y67 rfl) zA (al0 rfl rfl) hh).mono ?_;rintro e w2 ⟨rfl,kR⟩))
    obtain⟨PB,kU⟩:∃PB,PB=w.heap.size:=⟨_,rfl⟩;have kD:=z7 Ht;have Hy:Below w1.heap.size w1 w2:=((z8).alloc zA (.cells #[.string h] 9)).trans (kR.mono (by rw[Y4];exact Nat.le_succ _));obtain⟨W,hW⟩:∃W,W=w2.alloc (.cells #[.bool true,.string ⟨#[109,97,114,107]⟩,.string h] 173):=⟨_,rfl⟩;have kQ:Below w1.heap.size w1 W:=by rw[hW];exact bal Hy _
    have Hu:W.ownsRow w2.heap.size 173 3 (.slice (some ⟨w2.heap.size,0,none⟩) 1 1) 1 (pcC [mkP h]):=by
     refine⟨rfl,.inr ⟨w2.heap.size,1,#[.bool true,.string mkN,.string h],rfl,zA,by rw[hW];exact heap_alloc_new _ _,zA,by decide,rfl,rfl⟩⟩
    have kI:w.heap.size<=w2.heap.size:=zE Ha.size Hy.size;have Hp:=(Ha.block _ (lt_of_block kH.out)).trans kH.out;have Hl:=z7 bk1;have H9:=z7 Hp;have Hm:w1.heap.size<=w2.heap.size:=Hy.size;have kW:Hid (R=(evG (decide (0<0)) (F.drop 0) (P.drop 0)).map ([mkP h] ++ ·)):=z7 kY.out;have kT:W.heap.size=w2.heap.size+1:=by rw[hW,Y4]
    rw[<-hW];clear d2 d2' bk1 Hp hW Ht kU
    go_loopw [9,39] (fun lv iv wr=>∃(i:Nat) (A:List Pc),iv=.int .i64 (i:Int)/\i<=P.length/\Hid (R=(evG (decide (0<i)) (F.drop i) (P.drop i)).map (A ++ ·))/\Hid (wr.ownsRow w2.heap.size 173 3 lv A.length (pcC A))/\Hid (Below w1.heap.size w1 wr)/\A.length<=1+2*i/\w2.heap.size<=wr.heap.size) (fun _ iv _=>P.length-(intOf iv).toNat)
    case atStart=>exact⟨0,[mkP h],rfl,zD,kW,z7 Hu,z7 kQ,by simp,by rw[kT];exact Nat.le_succ _⟩
    case round=>
     obtain⟨i,A,rfl,hi,HR,HO,HB,Kb,Hh⟩:=hrel;obtain⟨a1,c1,rfl⟩:=zN HO.out;by_cases Hv:i<P.length
     . obtain⟨p,hp⟩:=zM P i Hv
       obtain⟨f,hf⟩:=zM F i (by omega);have Hr:=kZ.out p (List.mem_of_getElem? hp);have bc:=(HB.out.block _ (lt_of_block Hl.out)).trans Hl.out;have bb:=(HB.out.block _ (lt_of_block H9.out)).trans H9.out;have bp:=(HB.out.block _ (lt_of_block kD.out)).trans kD.out;obtain⟨r0,r0'⟩:=zL bp i _ (yDF P _ i p hp);obtain⟨r1,r1'⟩:=zL bc 2 _ rfl;obtain⟨r2,r2'⟩:=zL bb i _ (kF.out i f hf);have e0:(0:Int)<=(i:Int):=by omega
       have e1:(i:Int)<(P.length:Int):=by omega
       have e2:(i:Int)<(F.length:Int):=by omega
       have k9:=z7 (kF.out i f hf);by_cases kO:i=0
       . subst kO
         have kP:¬((0:Nat):Int) > 0:=by decide
         by_cases H8:bl f=staN\/bl f=endN
         . have hg:(f.toList == [83,116,97,114,116])=true\/((f.toList == [83,116,97,114,116])=false/\(f.toList == [69,110,100])=true):=by
            rw[ByteArray.toList_eq];rcases H8 with h|h
            . left;rw[beq_iff_eq];exact h
            . right;exact⟨by rw[show f.data.toList=endN from h];decide,by rw[beq_iff_eq];exact h⟩
           have kl:=fun w'=>y0v p ⟨⟨mo1⟩⟩ w' Hr (by decide)
           cases Hd:zW (bl p) mo1 with
           | true=>
            have hx:evX f p=some (mkP p):=by unfold evX;rw[if_pos H8,if_pos Hd]
            have KL:Hid (∀w',Calls prog 164 #[.string p,.string ⟨⟨mo1⟩⟩] w' fun e w''=>e=.returned (.bool true)/\Below w'.heap.size w' w''):=z7 (by rw[show zW (bl p) (bl ⟨⟨mo1⟩⟩)=true from Hd]at kl;exact kl);clear kl Hd;rcases hg with g1|⟨g1,g2⟩
            all_goals
             have H7:=HR.out;rw[y2P hf hp hx]at H7;rw[if_neg (by decide),List.append_nil]at H7;have Hn:=z7 H7;clear H7;clear hx H8 hf hp bc bb bp
             go_wp2_with (first
              | (go_at_call 164;refine(KL.out _).mono ?_;rintro e wl ⟨rfl,Hb⟩)
              | (go_at_call 242;refine(zi wl.heap.size 0 1 p _ (y67 rfl) zA (al0 rfl rfl) Hr).mono ?_;rintro e w4 ⟨rfl,He⟩)
              | (at_builtin;have Hi:=((Below.refl wl.heap.size wl).alloc zA (.cells #[.string p] 9)).trans (He.mono (by simp));refine zR rfl (.tmp 73) (.tmp 77) 88 173 rfl underlying88 Y3 3 40 infoLP rfl (by decide) w4 w2.heap.size (.slice a1 A.length c1) A.length (pcC A) rfl (zK (zK HO.out Hb) Hi) #[.bool true,.string ⟨#[109,97,114,107]⟩,.string p] rfl (by simp[Value.oneCell']) rfl (by omega) (by omega) (zE Hh (zE Hb.size Hi.size)) ?_;intro v' w5 H6 Hg Hw)
              | fail)
             go_roundw
             case rel=>exact⟨0+1,A ++ [mkP p],by first|omega|go_num,by omega,z7 (by rw[decide_eq_true (Nat.succ_pos 0)];exact Hn.out),z7 (by rw[zH,zo];exact H6),z7 (((HB.out.trans (Hb.mono HB.out.size)).trans (Hi.mono (zE HB.out.size Hb.size))).trans (Hg.mono Hm)),by simp;omega,zE Hh (zE Hb.size (zE Hi.size Hg.size))⟩
             case measure=>simp[intOf];omega
           | false=>
            have hx:evX f p=none:=by unfold evX;rw[if_pos H8,if_neg (by rw[Hd];decide)]
            have KL:Hid (∀w',Calls prog 164 #[.string p,.string ⟨⟨mo1⟩⟩] w' fun e w''=>e=.returned (.bool false)/\Below w'.heap.size w' w''):=z7 (by rw[show zW (bl p) (bl ⟨⟨mo1⟩⟩)=false from Hd]at kl;exact kl);clear kl Hd;rcases hg with g1|⟨g1,g2⟩
            all_goals
             have H7:R=none:=by rw[HR.out,y7o hf hp hx];rfl
             subst H7;clear hx H8 hf hp bc bb bp
             go_wp2_with (first
              | (go_at_call 164;refine(KL.out _).mono ?_;rintro e wl ⟨rfl,Hb⟩)
              | fail)
             go_ret2
             exact⟨Ha.trans ((HB.out.trans (Hb.mono HB.out.size)).mono Ha.size),.inl ⟨rfl,_,rfl⟩⟩
         . have hx:evX f p=some (txP f p):=by unfold evX;rw[if_neg H8]
           have g1:(f.toList == [83,116,97,114,116])=false:=by rw[ByteArray.toList_eq,Y2];exact fun e=>H8 (.inl e)
           have g2:(f.toList == [69,110,100])=false:=by rw[ByteArray.toList_eq,Y2];exact fun e=>H8 (.inr e)
           have KT:=z7 (fun w' h=>y0t f p w' (HG.out.bel (w':=w') h));have H7:=HR.out;rw[y2P hf hp hx]at H7;rw[if_neg (by decide),List.append_nil]at H7;have Hn:=z7 H7;clear H7;clear hx H8 hf hp bc bb bp
           go_wp2_with (first
            | (go_at_call 243;refine(KT.out _ (Ha.trans (HB.out.mono Ha.size))).mono ?_;rintro e w4 ⟨rfl,He⟩)
            | (at_builtin;refine zR rfl (.tmp 64) (.tmp 68) 88 173 rfl underlying88 Y3 3 40 infoLP rfl (by decide) w4 w2.heap.size (.slice a1 A.length c1) A.length (pcC A) rfl (zK HO.out He) #[.bool false,.string f,.string p] rfl (by simp[Value.oneCell']) rfl (by omega) (by omega) (zE Hh He.size) ?_;intro v' w5 H6 Hg Hw)
            | fail)
           go_roundw
           case rel=>exact⟨0+1,A ++ [txP f p],by first|omega|go_num,by omega,z7 (by rw[decide_eq_true (Nat.succ_pos 0)];exact Hn.out),z7 (by rw[zH,zo];exact H6),z7 ((HB.out.trans (He.mono HB.out.size)).trans (Hg.mono Hm)),by simp;omega,zE Hh (zE He.size Hg.size)⟩
           case measure=>simp[intOf];omega
       . have kP:(i:Int) > 0:=by omega
         by_cases H8:bl f=staN\/bl f=endN
         . have hg:(f.toList == [83,116,97,114,116])=true\/((f.toList == [83,116,97,114,116])=false/\(f.toList == [69,110,100])=true):=by
            rw[ByteArray.toList_eq];rcases H8 with h|h
            . left;rw[beq_iff_eq];exact h
            . right;exact⟨by rw[show f.data.toList=endN from h];decide,by rw[beq_iff_eq];exact h⟩
           have kl:=fun w'=>y0v p ⟨⟨mo1⟩⟩ w' Hr (by decide)
           cases Hd:zW (bl p) mo1 with
           | true=>
            have hx:evX f p=some (mkP p):=by unfold evX;rw[if_pos H8,if_pos Hd]
            have KL:Hid (∀w',Calls prog 164 #[.string p,.string ⟨⟨mo1⟩⟩] w' fun e w''=>e=.returned (.bool true)/\Below w'.heap.size w' w''):=z7 (by rw[show zW (bl p) (bl ⟨⟨mo1⟩⟩)=true from Hd]at kl;exact kl);clear kl Hd;rcases hg with g1|⟨g1,g2⟩
            all_goals
             have H7:=HR.out;rw[y2P hf hp hx]at H7;rw[if_pos (decide_eq_true (by omega))]at H7;have Hn:=z7 H7;clear H7;clear hx H8 hf hp bc bb bp
             go_wp2_with (first
              | (go_at_call 242;refine(zi wr.heap.size 0 1 coB _ (y67 rfl) zA (al0 rfl rfl) (by decide)).mono ?_;rintro e wa ⟨rfl,Hf⟩)
              | (at_builtin;refine zR rfl (.tmp 46) (.tmp 49) 88 173 rfl underlying88 Y3 3 40 infoLP rfl (by decide) wa w2.heap.size (.slice a1 A.length c1) A.length (pcC A) rfl (zK HO.out (((z8).alloc zA _).trans (Hf.mono (by simp)))) #[.bool true,.string ⟨#[109,97,114,107]⟩,.string coB] rfl (by simp[Value.oneCell']) rfl (by omega) (by omega) (zE Hh (zE (by simp) Hf.size)) ?_;intro vb wb Hc Hk ky;have Hj:=((Below.refl wr.heap.size wr).alloc zA (.cells #[.string coB] 9)).trans (Hf.mono (by simp));have Ho:=zE Hh (zE Hj.size Hk.size);have H5:=(HB.out.trans (Hj.mono HB.out.size)).trans (Hk.mono Hm);obtain⟨s1,s1'⟩:=zL ((H5.block _ (lt_of_block Hl.out)).trans Hl.out) 2 _ rfl;obtain⟨s2,s2'⟩:=zL ((H5.block _ (lt_of_block H9.out)).trans H9.out) i _ k9.out)
              | (go_at_call 164;refine(KL.out _).mono ?_;rintro e wl ⟨rfl,Hb⟩)
              | (go_at_call 242;refine(zi wl.heap.size 0 1 p _ (y67 rfl) zA (al0 rfl rfl) Hr).mono ?_;rintro e w4 ⟨rfl,He⟩)
              | (at_builtin;have Hi:=((Below.refl wl.heap.size wl).alloc zA (.cells #[.string p] 9)).trans (He.mono (by simp));refine zR rfl (.tmp 73) (.tmp 77) 88 173 rfl underlying88 Y3 3 40 infoLP rfl (by decide) w4 w2.heap.size vb (A.length+1) (pcC A++pcV (mkP coB)) rfl (zK (zK Hc Hb) Hi) #[.bool true,.string ⟨#[109,97,114,107]⟩,.string p] rfl (by simp[Value.oneCell']) rfl (by omega) (by omega) (zE Ho (zE Hb.size Hi.size)) ?_;intro v' w5 H6 Hg Hw)
              | fail)
             go_roundw
             case rel=>exact⟨i+1,A ++ [mkP coB] ++ [mkP p],by first|omega|go_num,by omega,z7 (by rw[decide_eq_true (Nat.succ_pos i)];exact Hn.out),z7 (by rw[zH,zH,zo,zo];exact H6),z7 (((H5.trans (Hb.mono H5.size)).trans (Hi.mono (zE H5.size Hb.size))).trans (Hg.mono Hm)),by simp;omega,zE Ho (zE Hb.size (zE Hi.size Hg.size))⟩
             case measure=>simp[intOf];omega
           | false=>
            have hx:evX f p=none:=by unfold evX;rw[if_pos H8,if_neg (by rw[Hd];decide)]
            have KL:Hid (∀w',Calls prog 164 #[.string p,.string ⟨⟨mo1⟩⟩] w' fun e w''=>e=.returned (.bool false)/\Below w'.heap.size w' w''):=z7 (by rw[show zW (bl p) (bl ⟨⟨mo1⟩⟩)=false from Hd]at kl;exact kl);clear kl Hd;rcases hg with g1|⟨g1,g2⟩
            all_goals
             have H7:R=none:=by rw[HR.out,y7o hf hp hx];rfl
             subst H7;clear hx H8 hf hp bc bb bp
             go_wp2_with (first
              | (go_at_call 242;refine(zi wr.heap.size 0 1 coB _ (y67 rfl) zA (al0 rfl rfl) (by decide)).mono ?_;rintro e wa ⟨rfl,Hf⟩)
              | (at_builtin;refine zR rfl (.tmp 46) (.tmp 49) 88 173 rfl underlying88 Y3 3 40 infoLP rfl (by decide) wa w2.heap.size (.slice a1 A.length c1) A.length (pcC A) rfl (zK HO.out (((z8).alloc zA _).trans (Hf.mono (by simp)))) #[.bool true,.string ⟨#[109,97,114,107]⟩,.string coB] rfl (by simp[Value.oneCell']) rfl (by omega) (by omega) (zE Hh (zE (by simp) Hf.size)) ?_;intro vb wb Hc Hk ky;have Hj:=((Below.refl wr.heap.size wr).alloc zA (.cells #[.string coB] 9)).trans (Hf.mono (by simp));have Ho:=zE Hh (zE Hj.size Hk.size);have H5:=(HB.out.trans (Hj.mono HB.out.size)).trans (Hk.mono Hm);obtain⟨s1,s1'⟩:=zL ((H5.block _ (lt_of_block Hl.out)).trans Hl.out) 2 _ rfl;obtain⟨s2,s2'⟩:=zL ((H5.block _ (lt_of_block H9.out)).trans H9.out) i _ k9.out)
              | (go_at_call 164;refine(KL.out _).mono ?_;rintro e wl ⟨rfl,Hb⟩)
              | fail)
             go_ret2
             exact⟨Ha.trans ((H5.trans (Hb.mono H5.size)).mono Ha.size),.inl ⟨rfl,_,rfl⟩⟩
         . have hx:evX f p=some (txP f p):=by unfold evX;rw[if_neg H8]
           have g1:(f.toList == [83,116,97,114,116])=false:=by rw[ByteArray.toList_eq,Y2];exact fun e=>H8 (.inl e)
           have g2:(f.toList == [69,110,100])=false:=by rw[ByteArray.toList_eq,Y2];exact fun e=>H8 (.inr e)
           have KT:=z7 (fun w' h=>y0t f p w' (HG.out.bel (w':=w') h));have H7:=HR.out;rw[y2P hf hp hx]at H7;rw[if_pos (decide_eq_true (by omega))]at H7;have Hn:=z7 H7;clear H7;clear hx H8 hf hp bc bb bp
           go_wp2_with (first
            | (go_at_call 242;refine(zi wr.heap.size 0 1 coB _ (y67 rfl) zA (al0 rfl rfl) (by decide)).mono ?_;rintro e wa ⟨rfl,Hf⟩)
            | (at_builtin;refine zR rfl (.tmp 46) (.tmp 49) 88 173 rfl underlying88 Y3 3 40 infoLP rfl (by decide) wa w2.heap.size (.slice a1 A.length c1) A.length (pcC A) rfl (zK HO.out (((z8).alloc zA _).trans (Hf.mono (by simp)))) #[.bool true,.string ⟨#[109,97,114,107]⟩,.string coB] rfl (by simp[Value.oneCell']) rfl (by omega) (by omega) (zE Hh (zE (by simp) Hf.size)) ?_;intro vb wb Hc Hk ky;have Hj:=((Below.refl wr.heap.size wr).alloc zA (.cells #[.string coB] 9)).trans (Hf.mono (by simp));have Ho:=zE Hh (zE Hj.size Hk.size);have H5:=(HB.out.trans (Hj.mono HB.out.size)).trans (Hk.mono Hm);obtain⟨s1,s1'⟩:=zL ((H5.block _ (lt_of_block Hl.out)).trans Hl.out) 2 _ rfl;obtain⟨s2,s2'⟩:=zL ((H5.block _ (lt_of_block H9.out)).trans H9.out) i _ k9.out)
            | (go_at_call 243;refine(KT.out _ (Ha.trans (H5.mono Ha.size))).mono ?_;rintro e w4 ⟨rfl,He⟩)
            | (at_builtin;refine zR rfl (.tmp 64) (.tmp 68) 88 173 rfl underlying88 Y3 3 40 infoLP rfl (by decide) w4 w2.heap.size vb (A.length+1) (pcC A++pcV (mkP coB)) rfl (zK Hc He) #[.bool false,.string f,.string p] rfl (by simp[Value.oneCell']) rfl (by omega) (by omega) (zE Ho He.size) ?_;intro v' w5 H6 Hg Hw)
            | fail)
           go_roundw
           case rel=>exact⟨i+1,A ++ [mkP coB] ++ [txP f p],by first|omega|go_num,by omega,z7 (by rw[decide_eq_true (Nat.succ_pos i)];exact Hn.out),z7 (by rw[zH,zH,zo,zo];exact H6),z7 ((H5.trans (He.mono H5.size)).trans (Hg.mono Hm)),by simp;omega,zE Ho (zE He.size Hg.size)⟩
           case measure=>simp[intOf];omega
     . have kM:i=P.length:=by omega
       have Hz:=HR.out;rw[List.drop_eq_nil_of_le (by omega:F.length<=i),List.drop_eq_nil_of_le (by omega:P.length<=i)]at Hz;have Hq:R=some A:=by rw[Hz];show some (A ++ [])=some A;rw[List.append_nil]
       have kX:=z7 Hq;subst kM;clear Hz Hq
       go_wp2_with fail
       go_ret2
       exact⟨Ha.trans (HB.out.mono Ha.size),.inr ⟨A,_,kX.out,rfl,zZ HO.out⟩⟩
structure SsaI (w0:World) (c:Nat) (st:Sc) (w:World):Prop where
 bel:Below w0.heap.size w0 w
 sc:ScI c st.ev st.fs w
 len:∀F,st.fs=some F->F.length<=1000001
theorem SsaI.keep{w0:World}{c:Nat}{st:Sc}{w w':World}(h:SsaI w0 c st w)(hb:Below w.heap.size w w'):SsaI w0 c st w':=⟨h.bel.trans (hb.mono h.bel.size),h.sc.kept (.of hb),h.len⟩
theorem yDv(w0:World)(Hr:GW w0)(c B:Nat)(Hm:w0.heap.size<=c)(kF:c<B):yDO 245 #[.pointer (some ⟨c,0,none⟩)] #[] ssaS (SsaI w0 c) B (fun k=>k=c):=by
 intro st s w hI hB hs;rw[show(#[.pointer (some ⟨c,0,none⟩)]:Array Value).push (.string s)++#[]=#[.pointer (some ⟨c,0,none⟩),.string s] from rfl];have HL:Hid ((bl s).length=s.size):=zJ s;have hG:=Hr.bel hI.bel;obtain⟨V,hV⟩:∃V,V=ssaS st s:=⟨_,rfl⟩;rw[<-hV];obtain⟨fv,h1,h2⟩:=hI.sc.blk;have kD:=lt_of_block h1;obtain⟨c0,c0'⟩:=zL h1 0 _ rfl;obtain⟨c1,c1'⟩:=zL h1 1 _ rfl;obtain⟨c2,c2'⟩:=zL h1 2 _ rfl;have HC:=z7 h1;have HF:=z7 h2;have HI:=z7 hI;have HG:=z7 hG;have ky:=z7 Hr;unfold ssaS at hV;clear h1 h2 hI hG Hr;cases hb:bl s with
 | nil=>
  rw[hb]at hV;simp only at hV;have hE:s.toList.isEmpty=true:=by rw[ByteArray.toList_eq,List.isEmpty_iff];exact hb
  have HV:=z7 hV;clear hV hb
  go_enter func245,ntmps245
  go_wp2_with fail
  go_ret2
  exact⟨.of z8,.inr ⟨st,[],_,HV.out,HI.out,rfl,.inl ⟨rfl,rfl,rfl⟩⟩⟩
 | cons x r=>
  have hE:s.toList.isEmpty=false:=by rw[ByteArray.toList_eq,show s.data.toList=x::r from hb];rfl
  have kA:1<=s.size:=by rw[<-HL.out,hb];simp
  have Ht:(bl s)[0]?=some x:=by rw[hb];rfl
  have X:∀h,s[0]'h=x:=zS s 0 x Ht;have kz:=x.toNat_lt;have i0:(0:Int)<(s.size:Int):=by omega
  have i1:(1:Int)<=(s.size:Int):=by omega
  rw[hb]at hV;simp only at hV;rw[<-hb]at hV;clear Ht hb;by_cases hx:x=59\/x=33
  . rw[if_pos hx]at hV
    have HV:=z7 hV;have He:(s.extract 0 1).size<=1000000:=by rw[zG];omega
    have KT:=z7 (fun w' h=>y0t reN (s.extract 1 s.size) w' (HG.out.bel (w':=w') h));have KA:=z7 (fun b w' (h:b<w'.heap.size/\w'.cell? ⟨b,0,none⟩=some (.string (s.extract 0 1)))=>zi b 0 1 (s.extract 0 1) w' h.1 zA h.2 He);clear hV He;rcases hx with rfl|rfl
    all_goals
     go_enter func245,ntmps245
     go_wp2_with fail
     go_region_with (first
      | (go_at_call 242;(refine(KA.out _ _ ?_).mono ?_;(first|(exact⟨by first|(simp;done)|(simp;omega),by simp⟩)|(exact⟨by show w.heap.size<(w.alloc _).heap.size;simp,by show(w.alloc _).cell? _=_;simp⟩));rintro e wa ⟨rfl,Hp⟩;have H6:Below w.heap.size w wa:=Below.trans (by repeat (first|exact Below.refl w.heap.size w|refine Below.drew ?_|refine Below.alloc ?_ (by simp) _)) (Hp.mono (by first|(simp;done)|(show w.heap.size<=(w.alloc _).heap.size;simp)))))
      | (go_at_call 243;(refine(KT.out _ ?_).mono ?_;(first|exact H6|exact H6.alloc H6.size _);rintro e wb ⟨rfl,Ho⟩;have Hf:Below w.heap.size w wb:=Below.trans (by first|exact H6|exact H6.alloc H6.size _) (Ho.mono (by first|exact H6.size|(have:=H6.size;simp;omega))))))
     all_goals
      go_wp2_with fail
      go_ret2
      have hf:=Hf.alloc Hf.size (.cells #[.bool true,.string mkN,.string (s.extract 0 1),.bool false,.string reN,.string (s.extract 1 s.size)] 173);exact⟨.of hf,.inr ⟨st,_,_,HV.out,HI.out.keep hf,rfl,zw wb #[.bool true,.string mkN,.string (s.extract 0 1),.bool false,.string reN,.string (s.extract 1 s.size)] _ 2⟩⟩
  . rw[if_neg hx]at hV
    have g1:((x.toNat:Int)==59)=false:=by rw[Y2];exact y2c x 59 (by decide) (fun e=>hx (.inl e))
    have g2:((x.toNat:Int)==33)=false:=by rw[Y2];exact y2c x 33 (by decide) (fun e=>hx (.inr e))
    have ks:=fun w' (h:Below w.heap.size w w')=>yH0 s w' (HG.out.bel h) hs
    clear hx;cases Hh:secL (bl s)with
    | true=>
     rw[Hh]at hV ks;rw[if_pos rfl]at hV;have k9:(s.toList == [91,69,118,101,110,116,115,93])=(bl s==evN):=by rw[ByteArray.toList_eq];rfl
     obtain⟨ev,Hu⟩:∃ev,ev=(bl s==evN):=⟨_,rfl⟩;rw[<-Hu]at k9 hV;have KS:=z7 ks;have HV:=z7 hV;clear hV ks Hh Hu
     go_enter func245,ntmps245
     go_wp2_with (first
      | (go_at_call 312;refine(KS.out _ z8).mono ?_;rintro e w1 ⟨rfl,H5⟩;have bk:=(H5.block _ (lt_of_block HC.out)).trans HC.out;obtain⟨d0,d0'⟩:=zL bk 0 _ rfl;obtain⟨d1,d1'⟩:=zL bk 1 _ rfl;obtain⟨d2,d2'⟩:=zL bk 2 _ rfl)
      | (go_at_call 242;refine(zi w1.heap.size 0 1 s _ (y67 (by simp only[World.size_setCell])) zA (al0 (by simp only[World.size_setCell]) rfl) hs).mono ?_;rintro e w2 ⟨rfl,Ha⟩))
     go_ret2
     have Hn:∀(W:World) (i:Nat) (u:Value),But w.heap.size (fun k=>k=c) w W->But w.heap.size (fun k=>k=c) w (W.setCell ⟨c,i,none⟩ u):=fun W i u h=>h.trans ⟨rfl,rfl,rfl,by rw[World.size_setCell];exact zA,fun j _ hn=>Below.heap_setCell _ _ _ _ (by rintro rfl;exact hn rfl)⟩
     have Hj:=Hn _ 2 (.slice none 0 0) (Hn _ 1 (.bool false) (Hn _ 0 (.bool ev) (.of H5)));have bk3:=y6j (y6j (y6j (i:=0) bk (.bool ev)) (i:=1) (.bool false)) (i:=2) (.slice none 0 0);have Hs:=(Hj.al Hj.size (.cells #[.string s] 9)).trans (.of (Ha.mono (by rw[Y4];exact Nat.le_succ_of_le Hj.size)));have bk4:=(Ha.block c (lt_of_block ((Below.heap_alloc _ (.cells #[.string s] 9) _ (lt_of_block bk3)).trans bk3))).trans ((Below.heap_alloc _ _ _ (lt_of_block bk3)).trans bk3);have hf:=Hs.al Hs.size (.cells #[.bool true,.string mkN,.string s] 173);have bk5:=(Below.heap_alloc w2 (.cells #[.bool true,.string mkN,.string s] 173) _ (lt_of_block bk4)).trans bk4;refine⟨hf,.inr ⟨⟨ev,none⟩,[mkP s],_,HV.out,⟨HI.out.bel.trans (hf.below HI.out.bel.size (fun k hk=>by rw[hk];exact Hm)),⟨_,bk5,fun F hF=>by cases hF⟩,fun F hF=>by cases hF⟩,rfl,zw w2 #[.bool true,.string mkN,.string s] _ 1⟩⟩
    | false=>
     rw[Hh]at hV ks;rw[if_neg (by decide)]at hV;have kk:=fun w' (h:Below w.heap.size w w')=>yH2 s w' (HG.out.bel h) hs
     obtain⟨n,hn⟩:∃n,n=keN (bl s):=⟨_,rfl⟩;rw[<-hn]at hV kk;have Hk:n≠0->n+2<=s.size:=fun h=>by have:=yBd (bl s) (by rw[<-hn];exact h);rw[HL.out]at this;rw[hn];exact this
     have KS:=z7 ks;clear ks Hh hn;by_cases h0:n=0
     . subst h0
       rw[if_pos rfl]at hV;have KK:=z7 kk;have HV:=z7 hV;clear hV kk Hk
       go_enter func245,ntmps245
       go_wp2_with (first
        | (go_at_call 312;refine(KS.out _ z8).mono ?_;rintro e w1 ⟨rfl,H5⟩)
        | (go_at_call 313;refine(KK.out _ H5).mono ?_;rintro e w2 ⟨rfl,Ha⟩))
       go_ret2
       exact⟨.of (bt H5 Ha),.inl ⟨HV.out,_,rfl⟩⟩
     . rw[if_neg h0]at hV
       have kC:=Hk h0;have hd:decide (n≠0)=true:=decide_eq_true h0;rw[hd]at kk;have j0:(0:Int)<=(n:Int):=by omega
       have j1:(n:Int)<=(s.size:Int):=by omega
       have j2:(n:Int)+2<=(s.size:Int):=by omega
       have j3:(0:Int)<=(n:Int)+2:=by omega
       have j4:((n:Int)+2).toNat=n+2:=by omega
       have j5:IntKind.i64.wrap ((n:Int)+2)=(n:Int)+2:=wi64 _ (by omega) (by omega);have KK:=z7 kk;clear kk Hk hd;by_cases Hd:bl (s.extract 0 n)=foN
       . rw[if_pos Hd]at hV
         have q1:((s.extract 0 n).toList == [70,111,114,109,97,116])=true:=by rw[ByteArray.toList_eq,beq_iff_eq];exact Hd
         have Hc:(s.extract (n+2) s.size).size<=1000000:=by rw[zG];omega
         have kf:=fun w' (h:Below w.heap.size w w')=>yCz c st.ev st.fs.isSome fv (s.extract (n+2) s.size) w' (HG.out.bel h) Hc ((h.block _ (lt_of_block HC.out)).trans HC.out) (fun w'' Hi=>ky.out.bel ((HI.out.keep h).bel.trans (Hi.below (HI.out.keep h).bel.size (fun k hk=>by rw[hk];exact Hm))))
         obtain⟨v,hv⟩:∃v,v=s.extract (n+2) s.size:=⟨_,rfl⟩;have Hv:V=some (⟨st.ev,some ((cutA v).map trB)⟩,[mkP s]):=by rw[hV,hv];rfl
         have Hl:(cutA v).length<=1000001:=by rw[y4i];have:=y0k v;rw[<-hv]at Hc;omega
         have Hz:(cutA v).map trB ≠ []:=by intro e;have:=congrArg List.length e;rw[List.length_map,y4i]at this;simp at this
         have KF:=z7 kf;have HV:=z7 Hv;have kx:=z7 hv;clear hV Hv kf Hd hv Hc
         go_enter func245,ntmps245
         go_wp2_with (first
          | (go_at_call 312;refine(KS.out _ z8).mono ?_;rintro e w0' ⟨rfl,H9⟩)
          | (go_at_call 313;refine(KK.out _ H9).mono ?_;rintro e w1 ⟨rfl,H8⟩;have H5:=bt H9 H8)
          | (go_at_call 314;refine(KF.out _ H5).mono ?_;rintro e w2 ⟨rfl,Hi,bf,kH,bk2,bb2⟩)
          | (go_at_call 242;refine(zi w2.heap.size 0 1 s _ (y67 rfl) zA (al0 rfl rfl) hs).mono ?_;rintro e w3 ⟨rfl,HQ⟩))
         go_ret2
         rw[<-kx.out]at bk2 bb2;have Hq:Below w2.heap.size w2 w3:=((z8).alloc zA (.cells #[.string s] 9)).trans (HQ.mono (by rw[Y4];exact Nat.le_succ _));have Hb:=bal Hq (.cells #[.bool true,.string mkN,.string s] 173);have Hw:w.heap.size<=w2.heap.size:=zE H5.size Hi.size;have hf:=((But.of H5).trans (Hi.mono H5.size)).trans (.of (Hb.mono Hw));have bk4:=(Hb.block _ (lt_of_block bk2)).trans bk2;have bb4:=(Hb.block _ (lt_of_block bb2)).trans bb2;refine⟨hf,.inr ⟨⟨st.ev,some ((cutA v).map trB)⟩,[mkP s],_,HV.out,⟨HI.out.bel.trans (hf.below HI.out.bel.size (fun k hk=>by rw[hk];exact Hm)),⟨_,bk4,fun F hF=>?_⟩,fun F hF=>by cases hF;rw[List.length_map];exact Hl⟩,rfl,zw w3 #[.bool true,.string mkN,.string s] _ 1⟩⟩;cases hF;exact⟨bf,_,_,by rw[List.length_map],Hz,bb4,fun i f hf=>by rw[List.getElem?_toArray,List.getElem?_map,hf];rfl⟩
       . rw[if_neg Hd]at hV
         have q1:((s.extract 0 n).toList == [70,111,114,109,97,116])=false:=by rw[ByteArray.toList_eq,Y2];exact Hd
         clear Hd;cases he:st.ev with
         | true=>
          rw[he]at hV c0 HC;rw[if_pos rfl]at hV;have hh:(s.extract 0 (n+2)).size<=1000000:=by rw[zG];omega
          have Hc:(s.extract (n+2) s.size).size<=1000000:=by rw[zG];omega
          have ke:=fun w' (h:Below w.heap.size w w')=>yFr c st.ev st.fs (s.extract 0 (n+2)) (s.extract (n+2) s.size) w' (HG.out.bel h) (HI.out.keep h).sc HI.out.len hh Hc
          have Hy:(V=none/\∀w',Below w.heap.size w w'->Calls prog 315 #[.pointer (some ⟨c,0,none⟩),.string (s.extract 0 (n+2)),.string (s.extract (n+2) s.size)] w' fun e w''=>Below w'.heap.size w' w''/\∃x,e=.returned (.tuple #[x,.bool false])) \/
           ∃l,V=some (st,l)/\∀w',Below w.heap.size w w'->Calls prog 315 #[.pointer (some ⟨c,0,none⟩),.string (s.extract 0 (n+2)),.string (s.extract (n+2) s.size)] w' fun e w''=>Below w'.heap.size w' w''/\∃v,e=.returned (.tuple #[v,.bool true])/\y1q w'' v l.length (pcC l):=by
           cases hp:evP st.fs (s.extract 0 (n+2)) (s.extract (n+2) s.size)with
           | none=>exact .inl ⟨by rw[hV,hp],fun w' h=>(ke w' h).mono fun e w'' ⟨h1,h2⟩=>⟨h1,by
            rcases h2 with⟨_,h2⟩|⟨_,_,h2,_⟩
            . exact h2
            . rw[hp]at h2;cases h2⟩⟩
           | some l=>exact .inr ⟨l,by rw[hV,hp],fun w' h=>(ke w' h).mono fun e w'' ⟨h1,h2⟩=>⟨h1,by
            rcases h2 with⟨h2,_⟩|⟨_,v,h2,h3,h4⟩
            . rw[hp]at h2;cases h2
            . rw[hp]at h2;cases h2;exact⟨v,h3,h4⟩⟩⟩
          clear hV ke he hh Hc;rcases Hy with⟨hv,ke⟩|⟨l,hv,ke⟩
          . have KE:=z7 ke
            have HV:=z7 hv;clear ke hv
            go_enter func245,ntmps245
            go_wp2_with (first
             | (go_at_call 312;refine(KS.out _ z8).mono ?_;rintro e w0' ⟨rfl,H9⟩)
             | (go_at_call 313;refine(KK.out _ H9).mono ?_;rintro e w1 ⟨rfl,H8⟩;have H5:=bt H9 H8;have bk:=(H5.block _ (lt_of_block HC.out)).trans HC.out;obtain⟨d0,d0'⟩:=zL bk 0 _ rfl))
            go_region_with (go_at_call 315;(refine(KE.out _ ?_).mono ?_;(first|exact H5|exact H5.drew);rintro e w2 ⟨Ha,x2,rfl⟩;have H7:Below w.heap.size w w2:=by first|exact bt H5 Ha|exact bt H5.drew Ha))
            all_goals
             go_wp2_with fail
             go_ret2
             exact⟨.of (by first|exact H7|exact H7.drew),.inl ⟨HV.out,_,rfl⟩⟩
          . have KE:=z7 ke
            have HV:=z7 hv;clear ke hv
            go_enter func245,ntmps245
            go_wp2_with (first
             | (go_at_call 312;refine(KS.out _ z8).mono ?_;rintro e w0' ⟨rfl,H9⟩)
             | (go_at_call 313;refine(KK.out _ H9).mono ?_;rintro e w1 ⟨rfl,H8⟩;have H5:=bt H9 H8;have bk:=(H5.block _ (lt_of_block HC.out)).trans HC.out;obtain⟨d0,d0'⟩:=zL bk 0 _ rfl))
            go_region_with (go_at_call 315;(refine(KE.out _ ?_).mono ?_;(first|exact H5|exact H5.drew);rintro e w2 ⟨Ha,v2,rfl,Hg⟩;have H7:Below w.heap.size w w2:=by first|exact bt H5 Ha|exact bt H5.drew Ha))
            all_goals
             go_wp2_with fail
             go_ret2
             exact⟨.of (by first|exact H7|exact H7.drew),.inr ⟨st,l,v2,HV.out,HI.out.keep (by first|exact H7|exact H7.drew),rfl,by first|exact Hg|exact Hg.bel (z8).drew⟩⟩
         | false=>
          rw[he]at hV c0 HC;rw[if_neg (by decide)]at hV;have HV:=z7 hV;have He:(s.extract 0 (n+2)).size<=1000000:=by rw[zG];omega
          have KT:=z7 (fun w' h=>y0t (s.extract 0 n) (s.extract (n+2) s.size) w' (HG.out.bel (w':=w') h));have KA:=z7 (fun b w' (h:b<w'.heap.size/\w'.cell? ⟨b,0,none⟩=some (.string (s.extract 0 (n+2))))=>zi b 0 1 (s.extract 0 (n+2)) w' h.1 zA h.2 He);clear hV He he
          go_enter func245,ntmps245
          go_wp2_with (first
           | (go_at_call 312;refine(KS.out _ z8).mono ?_;rintro e w0' ⟨rfl,H9⟩)
           | (go_at_call 313;refine(KK.out _ H9).mono ?_;rintro e w1 ⟨rfl,H8⟩;have H5:=bt H9 H8;have bk:=(H5.block _ (lt_of_block HC.out)).trans HC.out;obtain⟨d0,d0'⟩:=zL bk 0 _ rfl))
          go_region_with (first
           | (go_at_call 242;(refine(KA.out _ _ ?_).mono ?_;(first|(exact⟨by first|(simp;done)|(simp;omega),by simp⟩)|(exact⟨by show w1.heap.size<(w1.alloc _).heap.size;simp,by show(w1.alloc _).cell? _=_;simp⟩));rintro e wa ⟨rfl,Hp⟩;have H6:Below w1.heap.size w1 wa:=Below.trans (by repeat (first|exact Below.refl w1.heap.size w1|refine Below.drew ?_|refine Below.alloc ?_ (by simp) _)) (Hp.mono (by first|(simp;done)|(show w1.heap.size<=(w1.alloc _).heap.size;simp)))))
           | (go_at_call 243;(refine(KT.out _ ?_).mono ?_;(first|exact H5.trans (H6.mono H5.size)|exact H5.trans ((H6.alloc H6.size _).mono H5.size));rintro e wb ⟨rfl,Ho⟩;have Hf:Below w1.heap.size w1 wb:=Below.trans (by first|exact H6|exact H6.alloc H6.size _) (Ho.mono (by first|exact H6.size|(have:=H6.size;simp;omega))))))
          all_goals
           go_wp2_with fail
           go_ret2
           have hf:=H5.trans ((Hf.alloc Hf.size (.cells #[.bool true,.string mkN,.string (s.extract 0 (n+2)),.bool false,.string (s.extract 0 n),.string (s.extract (n+2) s.size)] 173)).mono H5.size);exact⟨.of hf,.inr ⟨st,_,_,HV.out,HI.out.keep hf,rfl,zw wb #[.bool true,.string mkN,.string (s.extract 0 (n+2)),.bool false,.string (s.extract 0 n),.string (s.extract (n+2) s.size)] _ 2⟩⟩
def ssaM(b:ByteArray):List Pc ⊕ Nat:=outP (walkS ssaS b ⟨false,none⟩ [] (lnF (bl b) 0))
theorem yFv:∀(b:Bool) (F P:List ByteArray) (l:List Pc),evG b F P=some l->l.length<=2*P.length
 | b,[],[],l,h=>by simp[evG]at h;subst h;simp
 | b,[],p::ps,l,h=>by simp[evG]at h
 | b,f::fs,[],l,h=>by simp[evG]at h
 | b,f::fs,p::ps,l,h=>by
  unfold evG at h;split at h
  . rename_i x r _ hr
    cases h;have:=yFv true fs ps r hr;cases b<;>simp<;>omega
  . cases h
theorem y9Z(st:Sc)(s:ByteArray)(st':Sc)(ps:List Pc)(h:ssaS st s=some (st',ps)):ps.length<=2*s.size:=by
 unfold ssaS at h;have hL:=zJ s;split at h
 . cases h;simp
 . rename_i x r h0
   have H6:1<=s.size:=by rw[<-hL,h0];simp
   split at h
   . cases h;simp;omega
   . split at h
     . cases h;simp;omega
     . simp only at h
       split at h
       . cases h
       . rename_i hn
         have hk:=yBd _ hn;rw[hL]at hk;split at h
         . cases h;simp;omega
         . split at h
           . split at h
             . rename_i l hl
               cases h;unfold evP at hl;split at hl
               . cases hl
               . rename_i F _
                 split at hl
                 . rename_i l2 H5
                   cases hl;have h1:=yFv _ _ _ _ H5;have h2:(cutN (s.extract (keN (bl s)+2) s.size) F.length).length<=(s.extract (keN (bl s)+2) s.size).size+1:=by
                    unfold cutN;have:=Lib.splitB_length_le coB 0 (min F.length ((s.extract (keN (bl s)+2) s.size).size+1)-1) (s.extract (keN (bl s)+2) s.size);omega
                   rw[zG]at h2;simp only[List.length_cons];omega
                 . cases hl
             . cases h
           . cases h;simp;omega
theorem yDL(b:ByteArray)(w:World)(hG:GW w)(hs:b.size<=1000000):Calls prog 159 #[.string b] w (ParsP (ssaM b) w):=by
 obtain⟨R,hR⟩:∃R,R=ssaM b:=⟨_,rfl⟩;rw[<-hR];obtain⟨W,hW⟩:∃W,W=w.alloc (.cells #[.int .i64 0,.int .i64 0] 40):=⟨_,rfl⟩;have H7:Below w.heap.size w W:=by rw[hW];exact bal z8 _
 have Hc:W.heap.size=w.heap.size+1:=by rw[hW,Y4]
 have lf:=Live.fresh w #[.int .i64 0,.int .i64 0] 40
 rw[<-hW]at lf;have m0:=lf 0 _ rfl;have m1:=lf 1 _ rfl;obtain⟨W2,H9⟩:∃W2,W2=W.alloc (.cells #[.bool false,.bool false,.slice none 0 0] 269):=⟨_,rfl⟩;have H5:Below W.heap.size W W2:=by rw[H9];exact bal z8 _
 have H8:W2.heap.size=W.heap.size+1:=by rw[H9,Y4]
 have H6:W2.heap[W.heap.size]?=some (.cells #[.bool false,.bool false,.slice none 0 0] 269 (0,0)):=by rw[H9];exact heap_alloc_new _ _
 have n0:=m0.keep H5;have n1:=m1.keep H5;have Hf:SsaI w W.heap.size ⟨false,none⟩ W2:=⟨H7.trans (H5.mono H7.size),⟨_,H6,fun F hF=>by cases hF⟩,fun F hF=>by cases hF⟩;have kw:Calls prog 240 #[.string b,.func (.func 245) #[.pointer (some ⟨W.heap.size,0,none⟩)] #[]] W2 fun e w'=>Below W.heap.size W2 w'/\((∃a:Nat,R=.inr a/\e=.returned (.tuple #[.slice none 0 0,.agg #[.int .i64 1,.int .i64 a]])) \/
  ∃l v,R=.inl l/\e=.returned (.tuple #[v,.agg #[.int .i64 0,.int .i64 0]])/\w'.ownsRow W2.heap.size 173 3 v l.length (pcC l)):=by
  refine(y6o 245 #[.pointer (some ⟨W.heap.size,0,none⟩)] #[] (enters_of func245 (by kernel_rfl) rfl) ssaS (SsaI w W.heap.size) (fun k=>k=W.heap.size) b ⟨false,none⟩ W2 hs y9Z (fun st w1 w2 h1 h2 h3=>⟨h1.bel.trans (h2.mono (by omega)),h1.sc.kept h3,h1.len⟩) (fun k hk=>by omega) (yDv w hG W.heap.size W2.heap.size (by omega) (by omega)) Hf).mono fun e w' h=>?_
  obtain⟨h1,h2⟩:=h;refine⟨h1.below (by omega) (fun k hk=>by omega),?_⟩;rw[hR];unfold ssaM;rcases h2 with⟨a,h3,h4⟩|⟨st,l,v,h3,_,h4,h5⟩
  . exact .inl ⟨a,by rw[h3];rfl,h4⟩
  . exact .inr ⟨l,v,by rw[h3];rfl,h4,h5⟩
 have Hi:∀(fn:Fn) (first cap:Array Value) (w:World),(Instr.makeFunc fn first cap).run prog w=.ok (.func fn first cap) w:=fun _ _ _ _=>rfl
 have He:=H7.trans (H5.mono H7.size);rw[Hc]at kw;have KW:=z7 kw;have Hg:=z7 He;have N0:=z7 n0;have N1:=z7 n1;have Hh:=z7 Hc;have Hd:=z7 H8;clear kw He n0 n1 Hc H8;clear hR lf m0 m1 Hf H6 H7 H5
 go_enter func159,ntmps159
 go_wp2_with fail
 rw[<-hW,<-H9];clear hW H9
 go_wp2_with (go_at_call 240;refine(KW.out).mono ?_;rintro e w1 ⟨Ha,h⟩;obtain⟨q0,q0'⟩:=N0.out.eq (Ha.block _ (Nat.lt_succ_self _));obtain⟨q1,q1'⟩:=N1.out.eq (Ha.block _ (Nat.lt_succ_self _));rcases h with⟨a,h3,rfl⟩|⟨l,v,h3,rfl,Hb⟩)
 . skip
   refine bodyPost_ret (v:=.tuple #[.slice none 0 0,.agg #[.int .i64 1,.int .i64 a]]) (by simp[results,results159,go_sem,q0,q1,q0',q1']) rfl ?_;exact⟨zh (Hg.out.trans (Ha.mono (Nat.le_succ _))) _ zA,.inl ⟨a,h3,rfl⟩⟩
 . skip
   refine bodyPost_ret (v:=.tuple #[v,.agg #[.int .i64 0,.int .i64 0]]) (by simp[results,results159,go_sem,q0,q1,q0',q1']) rfl ?_;exact⟨zh (Hg.out.trans (Ha.mono (Nat.le_succ _))) _ zA,.inr ⟨l,v,h3,rfl,y0r (zd Hb (by rw[Hd.out,Hh.out];exact Nat.le_succ _))⟩⟩
