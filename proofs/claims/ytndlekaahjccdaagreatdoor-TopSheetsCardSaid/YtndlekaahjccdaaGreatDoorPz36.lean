/- Pz36 -/
import Derived.Test.YtndlekaahjccdaaGreatDoorPZ
set_option linter.all false
set_option maxRecDepth 100000
set_option maxHeartbeats 40000000
namespace Go.Proofs.YtndlekaahjccdaaGreatDoor
section
open Go Go.Rf Go.RowKit Go.Proofs.Tryz
theorem yDq(l:List ByteArray)(k:Nat)(t:ByteArray)(h:l[k]?=some t):(scells l)[k]?=some (.string t):=by unfold scells;rw[List.getElem?_map,h];rfl
theorem y7E{w:World}{g o cap n:Nat}{l:List ByteArray}(h:Row w (.slice (some ⟨g,o,none⟩) n cap) n (scells l))(k:Nat)(t:ByteArray)(hk:l[k]?=some t):w.cell? ⟨g,o+k,none⟩=some (.string t):=by
 obtain⟨g',o',c',e,hc⟩:=y0X h _ _ (yDq l k t hk);simp only[Value.slice.injEq,Option.some.injEq,Addr.mk.injEq]at e;obtain⟨⟨rfl,rfl,_⟩,_,_⟩:=e;exact hc
theorem y4S{w:World}{a:Option Addr}{n c:Nat}{l:List ByteArray}(h:Row w (.slice a n c) n (scells l))(k:Nat)(t:ByteArray)(hk:l[k]?=some t):∃g o,a=some ⟨g,o,none⟩:=by
 obtain⟨g',o',c',e,hc⟩:=y0X h _ _ (yDq l k t hk);simp only[Value.slice.injEq]at e;exact⟨g',o',e.1⟩
theorem y9G{s:ByteArray}{l:List UInt8}(v:Bool)(h:(bl s==l)=v):(s.toList==l)=v:=by rw[ByteArray.toList_eq];exact h
theorem yCS(s:ByteArray)(n:Nat)(F:List ByteArray)(fv:Value)(B:Nat)(w:World)(hF:w.ownsRow B 9 1 fv F.length (scells F))(hs:s.size<=1000)(hn:n<=s.size)(ky:F.length<=1000001):
 Calls prog 34 #[.string s,.int .i64 (n:Int),fv] w (EvP (evP (some F) (s.extract 0 n) (s.extract n s.size)) w):=by
 obtain⟨R,hR⟩:∃R,R=evP (some F) (s.extract 0 n) (s.extract n s.size):=⟨_,rfl⟩;rw[<-hR];obtain⟨fa,fc,rfl⟩:=zN hF;obtain⟨V,hV⟩:∃V,V=s.extract n s.size:=⟨_,rfl⟩;obtain⟨h,hh⟩:∃h,h=s.extract 0 n:=⟨_,rfl⟩;have k9:V.size=s.size-n:=by rw[hV,zG];omega
 rw[<-hV,<-hh]at hR;obtain⟨P,hP⟩:∃P,P=Lib.splitB coB 0 (F.length-1) V:=⟨_,rfl⟩;have Hv:∀p∈P,p.size<=1000:=fun p hp=>by have:=y1C _ V p (by rw[hP]at hp;exact hp);omega
 have kc:=yB8 V F.length w (by omega) ky;rw[<-hP]at kc;have kJ:P.length<=1001:=by
  have h1:=Lib.splitB_length_le coB 0 (F.length-1) V;have h2:P.length<=Lib.countB V coB+1:=by
   rw[hP];rcases Nat.lt_or_ge (F.length-1) (Lib.countB V coB)with h|h
   . rw[<-hP];rw[<-hP]at h1;omega
   . rw[y36 V.size _ V zA h,Lib.splitB_all coB (by decide) 0 _ V rfl];exact zA
  have h3:=y0k V;omega
 have H7:R=(evG false F P).map (mkP h :: ·):=by
  rw[hR];show(match evG false F (cutN V F.length)with|some l=>some (mkP h::l)|none=>none)=_;rw[yAW,<-hP];cases evG false F P<;>rfl
 have i1:(n:Int)<=(s.size:Int):=by omega
 have i2:(0:Int)<=(n:Int):=by omega
 have kx:1<=P.length:=by
  rw[hP];cases F.length-1 with
  | zero=>rw[Lib.splitB_zero];exact zA
  | succ k=>
   rcases y0Z V with hm|⟨i,hm,_,_⟩
   . rw[Lib.splitB_miss _ _ _ _ hm];exact zA
   . rw[Lib.splitB_hit _ _ _ _ i hm];simp
 have Hr:1<=F.length->P.length<=F.length:=fun h=>by rw[hP];have:=Lib.splitB_length_le coB 0 (F.length-1) V;omega
 rw[hV]at kc;rw[hh]at H7;have KC:=z7 kc;have HF:=z7 hF;have kA:=z7 Hv;clear kc hF Hv hP hV hh hR k9 h V;by_cases Hm:F.length=0
 . have Hl:R=none:=by
    rw[H7,List.eq_nil_of_length_eq_zero Hm];cases P with
    | nil=>simp at kx
    | cons p ps=>rfl
   subst Hl;have hz:((F.length:Int)==0)=true:=by rw[Hm];rfl
   clear H7 Hm
   go_enter func34,ntmps34
   go_wp2_with (go_at_call 32;refine(KC.out).mono ?_;rintro e w1 ⟨⟨pv,rfl,H8⟩,Hg⟩;obtain⟨pa,pc,rfl⟩:=zN H8)
   go_ret2
   exact⟨Hg,.inl ⟨rfl,_,rfl⟩⟩
 . have hz:((F.length:Int)==0)=false:=by rw[Y2];omega
   have kF:¬(F.length:Int)=0:=by omega
   by_cases Ht:P.length=F.length
   . have kz:Hid (R=(evG (decide (0<0)) (F.drop 0) (P.drop 0)).map (([] ++ [mkP (s.extract 0 n)]) ++ ·)):=z7 H7
     have hq:((P.length:Int) != (F.length:Int))=false:=by rw[Ht];simp
     have Hz:(P.length:Int)=(F.length:Int):=by omega
     clear H7 Hm Hr
     go_enter func34,ntmps34
     go_wp2_with (first
      | (go_at_call 32;refine(KC.out).mono ?_;rintro e w1 ⟨⟨pv,rfl,H8⟩,Hg⟩;obtain⟨pa,pc,rfl⟩:=zN H8;have KP:=z7 (zb (.slice none 0 0) [] w1.heap.size (s.extract 0 n) w1 (World.ownsRow_nil _ _ _ _) (by decide) zA))
      | (go_at_call 27;refine(KP.out).mono ?_;rintro e w2 ⟨⟨v2,rfl,He⟩,Hu⟩))
     have Hw:=z7 (y01 H8);have Hy:Hid (Row w1 (.slice fa F.length fc) F.length (scells F)):=z7 ((y01 HF.out).keep Hg);have Hi:=z7 Hg;have kC:=z7 He;have kD:=z7 Hu;clear H8 Hg He Hu KP
     go_loopw [9,10] (fun v iv wr=>∃(i:Nat) (A:List Pc),iv=.int .i64 (i:Int)/\i<=P.length/\Hid (R=(evG (decide (0<i)) (F.drop i) (P.drop i)).map (A ++ ·))/\Hid (wr.ownsRow w1.heap.size 99 3 v A.length (pcC A))/\Hid (Below w1.heap.size w1 wr)/\A.length<=1+2*i) (fun _ iv _=>P.length-(intOf iv).toNat)
     case atStart=>exact⟨0,[] ++ [mkP (s.extract 0 n)],rfl,zD,kz,kC,kD,by simp⟩
     case round=>
      obtain⟨i,A,rfl,hi,HR,HO,HB,kK⟩:=hrel;obtain⟨va,vc,rfl⟩:=zN HO.out;by_cases Hq:i<P.length
      . obtain⟨p,hp⟩:=zM P i Hq
        obtain⟨f,hf⟩:=zM F i (by omega);have kH:=kA.out p (List.mem_of_getElem? hp);obtain⟨pg,po,rfl⟩:=y4S Hw.out i p hp;obtain⟨fg,fo,rfl⟩:=y4S Hy.out i f hf;have c1:∀w',Below w1.heap.size w1 w'->_:=fun w' hb=>y7E (Hw.out.keep hb) i p hp
        have c2:∀w',Below w1.heap.size w1 w'->_:=fun w' hb=>y7E (Hy.out.keep hb) i f hf
        have C1:=z7 c1;have C2:=z7 c2;have q1:=c1 wr HB.out;have q2:=c2 wr HB.out;have Hj:A.length<1000000:=by omega
        have Hs:∀x:Pc,(A ++ [x]).length<1000000:=fun x=>by rw[zH];simp;omega
        have e0:(0:Int)<=(i:Int):=by omega
        have e1:(i:Int)<(P.length:Int):=by omega
        have e2:(i:Int)<(F.length:Int):=by omega
        have KL:=z7 (fun w'=>y1w p ⟨⟨mo1⟩⟩ w' (by omega) (by decide));obtain⟨ts,Hn⟩:∃ts,(bl f==staN)=ts:=⟨_,rfl⟩;obtain⟨te,Ho⟩:∃te,(bl f==endN)=te:=⟨_,rfl⟩;have g1:(f.toList == [83,116,97,114,116])=ts:=y9G ts Hn;have g2:(f.toList == [69,110,100])=te:=y9G te Ho;have HQ:((bl f=staN\/bl f=endN)/\(ts=true\/(ts=false/\te=true)))\/(¬(bl f=staN\/bl f=endN)/\ts=false/\te=false):=by
         by_cases a1:bl f=staN
         . exact .inl ⟨.inl a1,.inl (by rw[<-Hn,a1];rfl)⟩
         . have b1:ts=false:=by rw[<-Hn,Y2];exact a1
           by_cases a2:bl f=endN
           . exact .inl ⟨.inr a2,.inr ⟨b1,by rw[<-Ho,a2];rfl⟩⟩
           . exact .inr ⟨by rintro(h|h)<;>contradiction,b1,by rw[<-Ho,Y2];exact a2⟩
        have Hc:(¬(0:Int)<(i:Int)/\¬0<i)\/((0:Int)<(i:Int)/\0<i):=by omega
        clear c1 c2 Hn Ho;rcases HQ with⟨hm,ho⟩|⟨hm,rfl,rfl⟩
        . cases hl:zW (bl p) mo1 with
          | false=>
           have hx:evX f p=none:=by unfold evX;rw[if_pos hm,hl];rfl
           have Hl:R=none:=by rw[HR.out,y7o hf hp hx];rfl
           subst Hl;have kl:=KL.out;rw[show bl (⟨⟨mo1⟩⟩:ByteArray)=mo1 from rfl,hl]at kl;have KL:=z7 kl;clear hx hf hp hm hl kl;rcases Hc with⟨k0,Hc⟩|⟨k0,Hc⟩
           all_goals
            rcases ho with rfl|⟨rfl,rfl⟩
            all_goals
             go_wp2_with (first
              | (go_at_call 27;refine(zb (.slice va A.length vc) A w1.heap.size coB wr HO.out Hj HB.out.size).mono ?_;rintro e w3 ⟨⟨v3,rfl,Hb⟩,Hk⟩;have H5:=HB.out.trans Hk;have q3:=C1.out w3 H5;have q4:=C2.out w3 H5)
              | (go_at_call 50;refine(KL.out _).mono ?_;rintro e w4 ⟨rfl,Hf⟩))
             go_ret2
             exact⟨by first|exact Hi.out.trans ((HB.out.trans (Hf.mono HB.out.size)).mono Hi.out.size)|exact Hi.out.trans ((H5.trans (Hf.mono H5.size)).mono Hi.out.size),.inl ⟨rfl,_,rfl⟩⟩
          | true=>
           have hx:evX f p=some (mkP p):=by unfold evX;rw[if_pos hm,if_pos hl]
           have H7:=HR.out;rw[y2P hf hp hx]at H7;have kl:=KL.out;rw[show bl (⟨⟨mo1⟩⟩:ByteArray)=mo1 from rfl,hl]at kl;have KL:=z7 kl;clear hx hf hp hm hl kl;rcases Hc with⟨k0,Hc⟩|⟨k0,Hc⟩
           . rw[decide_eq_false Hc,if_neg (by decide),List.append_nil]at H7
             have Hh:=z7 H7;clear H7;rcases ho with rfl|⟨rfl,rfl⟩
             all_goals
              go_wp2_with (first
               | (go_at_call 27;refine(zb (.slice va A.length vc) A w1.heap.size p w4 Hp Hj Ha.size).mono ?_;rintro e w5 ⟨⟨v5,rfl,H6⟩,Hd⟩;have H9:=Ha.trans Hd)
               | (go_at_call 50;refine(KL.out _).mono ?_;rintro e w4 ⟨rfl,Hf⟩;have Ha:=HB.out.trans (Hf.mono HB.out.size);have q5:=C1.out w4 Ha;have Hp:=zK HO.out Hf))
              go_roundw
              case rel=>exact⟨i+1,A ++ [mkP p],by first|omega|go_num,by omega,by rw[decide_eq_true (Nat.succ_pos i)];exact Hh,z7 H6,z7 H9,by rw[zH];simp;omega⟩
              case measure=>simp[intOf];omega
           . rw[decide_eq_true Hc,if_pos rfl]at H7
             have Hh:=z7 H7;clear H7;rcases ho with rfl|⟨rfl,rfl⟩
             all_goals
              go_wp2_with (first
               | (go_at_call 27;refine(zb v3 (A ++ [mkP coB]) w1.heap.size p w4 Hp (Hs _) Ha.size).mono ?_;rintro e w5 ⟨⟨v5,rfl,H6⟩,Hd⟩;have H9:=Ha.trans Hd)
               | (go_at_call 27;refine(zb (.slice va A.length vc) A w1.heap.size coB wr HO.out Hj HB.out.size).mono ?_;rintro e w3 ⟨⟨v3,rfl,Hb⟩,Hk⟩;have H5:=HB.out.trans Hk;have q3:=C1.out w3 H5;have q4:=C2.out w3 H5)
               | (go_at_call 50;refine(KL.out _).mono ?_;rintro e w4 ⟨rfl,Hf⟩;have Ha:=H5.trans (Hf.mono H5.size);have q5:=C1.out w4 Ha;have Hp:=zK Hb Hf))
              go_roundw
              case rel=>exact⟨i+1,A ++ [mkP coB] ++ [mkP p],by first|omega|go_num,by omega,by rw[decide_eq_true (Nat.succ_pos i)];exact Hh,z7 H6,z7 H9,by rw[zH,zH];simp;omega⟩
              case measure=>simp[intOf];omega
        . have hx:evX f p=some (txP f p):=by unfold evX;rw[if_neg hm]
          have H7:=HR.out;rw[y2P hf hp hx]at H7;clear hx hf hp hm;rcases Hc with⟨k0,Hc⟩|⟨k0,Hc⟩
          . rw[decide_eq_false Hc,if_neg (by decide),List.append_nil]at H7
            have Hh:=z7 H7;clear H7
            go_upto_region 14 with fail
            have KW:=z7 (fun(w':World) (hb:Below wr.heap.size wr w')=>y09 (.slice va A.length vc) A w1.heap.size f p w' (zK HO.out hb) Hj (zE HB.out.size hb.size))
            go_region_with (go_at_call 29;go_loud  (refine(KW.out _ (by first|exact(z8).drew|exact z8)).mono ?_);go_loud  (rintro e w5 ⟨⟨v5,rfl,H6⟩,Hd⟩);go_loud  (have H9:Below w1.heap.size w1 w5:=by first|exact HB.out.trans Hd|exact HB.out.drew.trans Hd))
            all_goals
             go_wp2_with fail
             go_roundw
             case rel=>exact⟨i+1,A ++ [txP f p],by first|omega|go_num,by omega,by rw[decide_eq_true (Nat.succ_pos i)];exact Hh,z7 H6,z7 H9,by rw[zH];simp;omega⟩
             case measure=>simp[intOf];omega
          . rw[decide_eq_true Hc,if_pos rfl]at H7
            have Hh:=z7 H7;clear H7
            go_upto_region 14 with(go_at_call 27;refine(zb (.slice va A.length vc) A w1.heap.size coB wr HO.out Hj HB.out.size).mono ?_;rintro e w3 ⟨⟨v3,rfl,Hb⟩,Hk⟩;have H5:=HB.out.trans Hk;have q3:=C1.out w3 H5;have q4:=C2.out w3 H5)
            have KW:=z7 (fun(w':World) (hb:Below w3.heap.size w3 w')=>y09 v3 (A ++ [mkP coB]) w1.heap.size f p w' (zK Hb hb) (Hs _) (zE H5.size hb.size))
            go_region_with (go_at_call 29;go_loud  (refine(KW.out _ (by first|exact(z8).drew|exact z8)).mono ?_);go_loud  (rintro e w5 ⟨⟨v5,rfl,H6⟩,Hd⟩);go_loud  (have H9:Below w1.heap.size w1 w5:=by first|exact H5.trans Hd|exact H5.drew.trans Hd))
            all_goals
             go_wp2_with fail
             go_roundw
             case rel=>exact⟨i+1,A ++ [mkP coB] ++ [txP f p],by first|omega|go_num,by omega,by rw[decide_eq_true (Nat.succ_pos i)];exact Hh,z7 H6,z7 H9,by rw[zH,zH];simp;omega⟩
             case measure=>simp[intOf];omega
      . have kI:i=P.length:=by omega
        have hv:R=some A:=by
         rw[HR.out,List.drop_eq_nil_of_le (by omega),List.drop_eq_nil_of_le (by omega)];show some (A ++ [])=_;rw[List.append_nil]
        have HV:=z7 hv;clear hv
        go_wp2_with fail
        go_ret2
        exact⟨Hi.out.trans (HB.out.mono Hi.out.size),.inr ⟨A,_,HV.out,rfl,zZ HO.out⟩⟩
   . have Hq:P.length<F.length:=by have:=Hr (by omega);omega
     have Hl:R=none:=by rw[H7,y5e _ _ _ Hq];rfl
     subst Hl;have hq:((P.length:Int) != (F.length:Int))=true:=by rw[bne,show((P.length:Int)==(F.length:Int))=false by rw[Y2];omega];rfl
     have Hz:¬(P.length:Int)=(F.length:Int):=by omega
     clear H7 Hm Hr Ht
     go_enter func34,ntmps34
     go_wp2_with (go_at_call 32;refine(KC.out).mono ?_;rintro e w1 ⟨⟨pv,rfl,H8⟩,Hg⟩;obtain⟨pa,pc,rfl⟩:=zN H8)
     go_ret2
     exact⟨Hg,.inl ⟨rfl,_,rfl⟩⟩
def resC(t:ByteArray):Nat->List Value
 | 0=>[]
 | n+1=>resC t n ++ [.int .i64 0,.int .i64 0,.string t]
theorem infoRes:(Tryz.prog.info? 42).map (fun i=>(i.zero,i.size,i.bytes))=some (some (.agg #[.int .i64 0,.int .i64 0,.string ⟨#[]⟩]),3,32):=by kernel_rfl
theorem yCh(o:Opt)(fs:List ByteArray)(v:Value)(t:ByteArray)(w:World)(hG:GW w)(H5:Row w v fs.length (scells fs))(hn:fs.length<=1000)
 (kf:∀f∈fs,∀w',GW w'->Calls prog 20 #[.string f,.agg o.c] w' fun e w''=>e=.returned (.tuple #[.string t,.agg #[.int .i64 0,.int .i64 0]])/\Below w'.heap.size w' w''):
 Calls prog 9 #[.agg o.c,v] w fun e w'=>(∃u,e=.returned u/\w'.ownsRow w.heap.size 42 3 u fs.length (resC t fs.length))/\Below w.heap.size w w':=by
 obtain⟨va,vc,rfl,_⟩:=id H5;obtain⟨W,hW⟩:∃W,W=w.alloc (.cells o.c 25):=⟨_,rfl⟩;have H9:Below w.heap.size w W:=by rw[hW];exact bal z8 _
 have H7:W.heap[w.heap.size]?=some (.cells o.c 25 (0,0)):=by rw[hW];exact heap_alloc_new _ _
 have Hf:W.heap.size=w.heap.size+1:=by rw[hW,Y4]
 have KO:=z7 (fun w' (h:Below W.heap.size W w')=>(⟨(zL (blkQ H7 h) 0 _ rfl).1,(zL (blkQ H7 h) 1 _ rfl).1,(zL (blkQ H7 h) 2 _ rfl).1,(zL (blkQ H7 h) 3 _ rfl).1⟩:w'.cell? ⟨w.heap.size,0,none⟩=some (.int .i64 (o.k:Int))/\w'.cell? ⟨w.heap.size,1,none⟩=some (.int .i64 o.fb)/\w'.cell? ⟨w.heap.size,2,none⟩=some (.bool o.g)/\w'.cell? ⟨w.heap.size,3,none⟩=some (.int .i64 o.bu)));have H8:=z7 (H5.keep H9);have HW:=z7 hW;have Hg:=z7 H9;have Hk:=z7 Hf;have HG:=z7 (hG.bel H9);have KF:=z7 kf;clear H5 H9 H7 hW Hf hG kf
 go_enter func9,ntmps9
 go_upto_region 1 with fail
 rw[<-HW.out]
 go_wp2_with fail
 go_loopw [5,12] (fun lv iv wr=>∃i:Nat,iv=.int .i64 (i:Int)/\i<=fs.length/\Hid (wr.ownsRow W.heap.size 42 3 lv i (resC t i))/\Hid (Below W.heap.size W wr)) (fun _ iv _=>fs.length-(intOf iv).toNat)
 case atStart=>exact⟨0,rfl,zD,z7 (World.ownsRow_nil _ _ _ _),z7 z8⟩
 case round=>
  obtain⟨i,rfl,hi,HO,HB⟩:=hrel;obtain⟨la,lc,rfl⟩:=zN HO.out;by_cases Hh:i<fs.length
  . obtain⟨f,hf⟩:=zM fs i Hh
    obtain⟨g,q,rfl⟩:=y4S H8.out i f hf;have q1:=y7E (H8.out.keep HB.out) i f hf;obtain⟨o0,o1,o2,o3⟩:=KO.out wr HB.out;have KFI:=z7 (KF.out f (List.mem_of_getElem? hf) wr (HG.out.bel HB.out));have e0:(0:Int)<=(i:Int):=by omega
    have e1:(i:Int)<(fs.length:Int):=by omega
    have y1:i<70368744177664:=by omega
    have y2:(i+1)*32<=140737488355328:=by omega
    clear hf
    go_upto_region 6 with(first
     | (go_at_call 20;(with_reducible refine(KFI.out).mono ?_);rintro e w3 ⟨rfl,He⟩)
     | (refine Go.wpList_store_row rfl 40 _ _ rfl w3.heap.size (fK 0) rfl rfl 40 faZ (heap_alloc_new _ _) (yIe _) rfl (fKOne _) ?_))
    obtain⟨Hb,Hc⟩:=yI6 w3 faZ 0;obtain⟨Y,hY⟩:∃Y,Y=(w3.alloc (.cells faZ 40)).setRow w3.heap.size (fK 0):=⟨_,rfl⟩;rw[<-hY]at Hb Hc ⊢;obtain⟨m0,m1⟩:=yFm Hb;have Ha:=bt He Hc;have Hl:=z7 (zK HO.out Ha);have Hd:=HB.out.trans (Ha.mono HB.out.size);have Hm:=z7 Hd;clear Hb Hc hY He Ha
    go_wp2_with (at_builtin;refine zR rfl _ _ 35 42 rfl underlying35 (.agg #[.int .i64 0,.int .i64 0,.string ⟨#[]⟩]) 3 32 infoRes rfl (by decide) Y W.heap.size (.slice la i lc) i (resC t i) rfl Hl.out #[.int .i64 0,.int .i64 0,.string t] rfl (by simp[Value.oneCell']) rfl y1 y2 Hd.size ?_;intro v6 w6 H6 Hj Hn)
    go_roundw
    case rel=>exact⟨i+1,by first|omega|go_num,by omega,z7 H6,z7 (Hm.out.trans Hj)⟩
    case measure=>simp[intOf];omega
  . have Hi:i=fs.length:=by omega
    subst Hi
    go_wp2_with fail
    go_ret
    exact⟨⟨_,rfl,zd HO.out (by rw[Hk.out];exact Nat.le_succ _)⟩,Hg.out.trans (HB.out.mono Hg.out.size)⟩
def bomL:List UInt8:=[239,187,191]
def vldB(t:ByteArray):Bool:=(scanL (bl t)).2.isNone && !Lib.hasPrefix (bl t) bomL
theorem pre3(t:ByteArray):(decide (t.size<3) || !((t.extract 0 3).toList == [239,187,191])) = !Lib.hasPrefix (bl t) bomL:=by
 have hL:=zJ t;have e:(t.extract 0 3).toList=(bl t).take 3:=by rw[ByteArray.toList_eq,show(t.extract 0 3).data.toList=bl (t.extract 0 3) from rfl,y1N];rfl
 rw[e];unfold Lib.hasPrefix bomL
 match hb:bl t with
 | []=>rw[hb]at hL;simp at hL;rw[<-hL];rfl
 | [a]=>rw[hb]at hL;simp at hL;rw[<-hL];simp[List.isPrefixOf]
 | [a,b]=>rw[hb]at hL;simp at hL;rw[<-hL];simp[List.isPrefixOf]
 | a::b::c::r=>
  rw[hb]at hL;have h3:¬t.size<3:=by simp at hL;omega
  rw[decide_eq_false h3,Bool.false_or]
  congr 1
  rw[Bool.eq_iff_iff];simp[List.isPrefixOf];constructor
  . rintro⟨h1,h2,h3⟩;exact⟨h1.symm,h2.symm,h3.symm⟩
  . rintro⟨h1,h2,h3⟩;exact⟨h1.symm,h2.symm,h3.symm⟩
theorem yEJ(t:ByteArray)(w:World)(hs:t.size<=1000000)(hb:(scanL (bl t)).2=none):Calls prog 8 #[.string t] w fun e w'=>(∃v,e=.returned (.tuple #[v,.int .i64 (-1)])/\OwnI w' w.heap.size v (pts (bl t)))/\Below w.heap.size w w':=by
 refine(y3B t w (by omega)).mono fun e w' q=>?_
 unfold RPts yGf at q;rw[hb]at q;exact q
theorem yJH(t:ByteArray)(k:Nat)(w:World)(hs:t.size<=1000000)(hb:(scanL (bl t)).2=some k):Calls prog 8 #[.string t] w fun e w'=>e=.returned (.tuple #[.slice none 0 0,.int .i64 (k:Nat)])/\Below w.heap.size w w':=by
 refine(y3B t w (by omega)).mono fun e w' q=>?_
 unfold RPts yGf at q;rw[hb]at q;exact q
theorem y6B(t:ByteArray)(w:World)(hs:t.size<=1000000):Calls prog 5 #[.string t] w fun e w'=>e=.returned (.bool (vldB t))/\Below w.heap.size w w':=by
 cases hb:(scanL (bl t)).2 with
 | some k=>
  have hv:vldB t=false:=by unfold vldB;rw[hb];rfl
  rw[hv];have K:=z7 (yJH t k w hs hb);have g:¬(k:Int)<0:=by omega
  clear hb hv
  go_enter func5,ntmps5
  go_wp2_with (go_at_call 8;refine(K.out).mono ?_;rintro e w1 ⟨rfl,H5⟩)
  go_ret
  exact⟨rfl,H5⟩
 | none=>
  have hv:vldB t=(decide (t.size<3) || !((t.extract 0 3).toList == [239,187,191])):=by unfold vldB;rw[hb,pre3];rfl
  rw[hv];have K:=z7 (yEJ t w hs hb);clear hb hv;by_cases h3:t.size<3
  . rw[decide_eq_true h3,Bool.true_or]
    have g:(t.size:Int)<3:=by omega
    go_enter func5,ntmps5
    go_wp2_with (go_at_call 8;refine(K.out).mono ?_;rintro e w1 ⟨⟨v,rfl,hv⟩,H5⟩)
    go_ret
    exact⟨rfl,H5⟩
  . rw[decide_eq_false h3,Bool.false_or]
    have g:¬(t.size:Int)<3:=by omega
    have g2:(3:Int)<=(t.size:Int):=by omega
    obtain⟨q,hq⟩:∃q,((t.extract 0 3).toList == [239,187,191])=q:=⟨_,rfl⟩;rw[hq];have H6:((t.extract 0 3).toList != [239,187,191]) = !q:=by rw[bne,hq]
    go_enter func5,ntmps5
    go_wp2_with (go_at_call 8;refine(K.out).mono ?_;rintro e w1 ⟨⟨v,rfl,hv⟩,H5⟩)
    go_ret
    exact⟨by show Ending.returned (Value.bool (decide ((t.size:Int)<3) || !q))=_;rw[decide_eq_false (show ¬(t.size:Int)<3 by omega),Bool.false_or],H5⟩
end
section
open Go.RowKit Go.Proofs.Tryz
theorem yGC(x:UInt8)(r:List UInt8)(h:x.toNat<128):dec (x::r)=(x.toNat,1):=by
 have e0:((x::r).getD 0 0).toNat=x.toNat:=rfl;unfold dec;rw[e0,Lib.decodeN,if_pos h]
theorem eqU(z:Int)(b:UInt8)(h:z=(b.toNat:Int)):z.toNat.toUInt8=b:=by
 have:=b.toNat_lt;apply UInt8.toNat_inj.1;rw[u8n z (by omega) (by omega)];omega
theorem y7p(v:Int)(zs:List Int)(bs:List UInt8)(hz:Lib.encodeRuneZ v=zs)(h:zs=bs.map fun b=>(b.toNat:Int)):encR v=bs:=by
 unfold encR Lib.encodeRune;rw[hz,h,List.map_map]
 conv=>rhs;rw[<-List.map_id bs]
 apply List.map_congr_left;intro b _;exact eqU _ b rfl
theorem yJx(l:List UInt8)(H5:l ≠ [])(hb:y00 l=false):l.take (dec l).2=encR (dec l).1/\Scal (dec l).1:=by
 match l,H5,hb with
 | b0::r0,_,hb=>
  have h0:=b0.toNat_lt;by_cases c0:b0.toNat<128
  . rw[yGC b0 r0 c0]
    refine⟨?_,by unfold Scal;simp only;omega⟩;exact(y7p _ [(b0.toNat:Int)] [b0] (Lib.encodeRuneZ_one (by omega) (by omega)) rfl).symm
  have E:dec (b0::r0)=Lib.decodeN (b0::r0).length b0.toNat ((b0::r0).getD 1 0).toNat ((b0::r0).getD 2 0).toNat ((b0::r0).getD 3 0).toNat:=rfl;unfold Lib.decodeN at E;rw[if_neg c0]at E;have bad:¬dec (b0::r0)=(65533,1):=fun h=>by rw[(y2v _).2 h]at hb;cases hb
  by_cases c1:b0.toNat/32=6/\(1<(b0::r0).length/\((b0::r0).getD 1 0).toNat/64=2)
  . rw[if_pos c1]at E
    obtain⟨d0,d1,d2⟩:=c1
    match r0,d1,d2,E,bad with
    | b1::r1,_,d2,E,bad=>
     have h1:=b1.toNat_lt;have g1:(b0::b1::r1).getD 1 0=b1:=rfl;rw[g1]at d2 E;by_cases c2:b0.toNat%32*64+b1.toNat%64 ≥ 128
     . rw[if_pos c2]at E
       rw[E];refine⟨?_,by unfold Scal;simp only;omega⟩;refine(y7p _ _ [b0,b1] (Lib.encodeRuneZ_two (by simp only;omega) (by simp only;omega)) ?_).symm;simp only[List.map_cons,List.map_nil]
       congr 1
       . omega
       . congr 1;omega
     . rw[if_neg c2]at E;exact absurd E bad
  rw[if_neg c1]at E;by_cases c3:b0.toNat/16=14/\(1<(b0::r0).length/\((b0::r0).getD 1 0).toNat/64=2)/\(2<(b0::r0).length/\((b0::r0).getD 2 0).toNat/64=2)
  . rw[if_pos c3]at E
    obtain⟨d0,⟨d1,d2⟩,d3,d4⟩:=c3
    match r0,d1,d2,d3,d4,E,bad with
    | [b1],_,_,d3,_,_,_=>simp at d3
    | b1::b2::r1,_,d2,_,d4,E,bad=>
     have h1:=b1.toNat_lt;have h2:=b2.toNat_lt;have g1:(b0::b1::b2::r1).getD 1 0=b1:=rfl;have g2:(b0::b1::b2::r1).getD 2 0=b2:=rfl;rw[g1]at d2 E;rw[g2]at d4 E;split at E
     . next c2=>
       rw[E];refine⟨?_,by unfold Scal;simp only;omega⟩;refine(y7p _ _ [b0,b1,b2] (Lib.encodeRuneZ_three (by simp only;omega)) ?_).symm;simp only[List.map_cons,List.map_nil]
       congr 1
       . omega
       . congr 1
         . omega
         . congr 1;omega
     . exact absurd E bad
  rw[if_neg c3]at E;by_cases c4:b0.toNat/8=30/\(1<(b0::r0).length/\((b0::r0).getD 1 0).toNat/64=2)/\(2<(b0::r0).length/\((b0::r0).getD 2 0).toNat/64=2)/\(3<(b0::r0).length/\((b0::r0).getD 3 0).toNat/64=2)
  . rw[if_pos c4]at E
    have hr:∃b1 b2 b3 r1,r0=b1::b2::b3::r1:=by
     have d5:=c4.2.2.2.1;cases r0 with
     | nil=>simp at d5
     | cons b1 r0=>
      cases r0 with
      | nil=>simp at d5
      | cons b2 r0=>
       cases r0 with
       | nil=>simp at d5
       | cons b3 r0=>exact⟨b1,b2,b3,r0,rfl⟩
    obtain⟨b1,b2,b3,r1,rfl⟩:=hr;have g1:(b0::b1::b2::b3::r1).getD 1 0=b1:=rfl;have g2:(b0::b1::b2::b3::r1).getD 2 0=b2:=rfl;have g3:(b0::b1::b2::b3::r1).getD 3 0=b3:=rfl;rw[g1,g2,g3]at c4 E;have h1:=b1.toNat_lt;have h2:=b2.toNat_lt;have h3:=b3.toNat_lt;have d0:=c4.1;have d2:=c4.2.1.2;have d4:=c4.2.2.1.2;have d6:=c4.2.2.2.2;clear c4 c3 c1;generalize hv:b0.toNat%8*262144+b1.toNat%64*4096+b2.toNat%64*64+b3.toNat%64=v at E;by_cases c2:v ≥ 65536/\(v<55296\/(57344<=v/\v<=1114111))
    . rw[if_pos c2]at E
      rw[E];refine⟨?_,by unfold Scal;simp only;omega⟩;refine(y7p _ _ [b0,b1,b2,b3] (Lib.encodeRuneZ_four (by simp only;omega) (by simp only;omega)) ?_).symm;simp only[List.map_cons,List.map_nil]
      congr 1
      . omega
      . congr 1
        . omega
        . congr 1
          . omega
          . congr 1;omega
    . rw[if_neg c2]at E;exact absurd E bad
  . rw[if_neg c4]at E;exact absurd E bad
theorem yH5:∀(f:Nat) (l:List UInt8) (a n:Nat),l.length<=f->(scanF f l a n).2=none->l=encL (ptsF f l)/\∀p∈ptsF f l,Scal p:=by
 intro f
 induction f with
 | zero=>
  intro l a n hl _;obtain rfl:l = []:=List.eq_nil_of_length_eq_zero (by omega);exact⟨rfl,fun p hp=>by cases hp⟩
 | succ f ih=>
  intro l a n hl h;rw[ptsF];by_cases H5:l = []
  . subst H5;exact⟨rfl,fun p hp=>by cases hp⟩
  . rw[if_neg H5]
    cases hb:y00 l with
    | true=>rw[y1u f l a n H5 hb]at h;cases h
    | false=>
     rw[y2J f l a n H5 hb]at h;have hp:=y0A l;have H6:0<l.length:=List.length_pos_iff.2 H5;obtain⟨h1,h2⟩:=ih (l.drop (dec l).2) _ _ (by rw[List.length_drop];omega) h;obtain⟨e1,e2⟩:=yJx l H5 hb;refine⟨?_,fun p hp=>?_⟩
     . rw[y8x,<-h1,<-e1,List.take_append_drop]
     . rcases List.mem_cons.1 hp with rfl|hp
       . exact e2
       . exact h2 p hp
theorem y87(l:List UInt8)(h:(scanL l).2=none):l=encL (pts l)/\∀p∈pts l,Scal p:=yH5 l.length l 0 0 zA h
theorem y6q(big:Bool)(u:Int)(h0:0<=u)(h1:u<65536):∃x y,unitB big u = [x,y]/\unitI x y big=u:=by
 have e1:(UInt8.ofNat (u.toNat/256)).toNat=u.toNat/256:=by rw[UInt8.toNat_ofNat'];omega
 have e2:(UInt8.ofNat (u.toNat%256)).toNat=u.toNat%256:=by rw[UInt8.toNat_ofNat'];omega
 cases big with
 | true=>exact⟨_,_,rfl,by unfold unitI;rw[if_pos rfl,e1,e2];omega⟩
 | false=>exact⟨_,_,rfl,by unfold unitI;rw[if_neg (by decide),e1,e2];omega⟩
theorem y9Q(big:Bool)(p:Int)(hp:Scal p)(r:List UInt8):wsign big (bytesP big p++r)=(p,(bytesP big p).length)/\bytesP big p ≠ []:=by
 obtain⟨p0,p1,p2⟩:=hp;by_cases h:p<65536
 . have e:bytesP big p=unitB big p:=by unfold bytesP y6A;rw[if_pos h];simp
   obtain⟨x,y,hb,hu⟩:=y6q big p p0 h;rw[e,hb];refine⟨?_,by simp⟩;show wsign big (x::y::r)=(p,2);rw[wsign.eq_def];simp only;rw[hu,if_pos (by omega)]
 . have e:bytesP big p=unitB big (55296+(p-65536)/1024)++unitB big (56320+(p-65536)%1024):=by unfold bytesP y6A;rw[if_neg h];simp
   obtain⟨x,y,hb,hu⟩:=y6q big (55296+(p-65536)/1024) (by omega) (by omega);obtain⟨z,v,H6,H5⟩:=y6q big (56320+(p-65536)%1024) (by omega) (by omega);rw[e,hb,H6];refine⟨?_,by simp⟩;show wsign big (x::y::z::v::r)=(p,4);rw[wsign.eq_def];simp only;rw[hu,H5,if_neg (by omega),if_neg (by omega),if_neg (by omega)]
   congr 1
   omega
theorem wv_pts(big:Bool):∀(ps:List Int) (f n:Nat) (acc:List UInt8),(∀p∈ps,Scal p)->(ps.flatMap (bytesP big)).length<=f->runT (tokW big) f (ps.flatMap (bytesP big)) n acc=(acc++encL ps,none):=by
 intro ps
 induction ps with
 | nil=>intro f n acc _ _;simp[encL,y39]
 | cons p ps ih=>
  intro f n acc hp hf;rw[List.flatMap_cons]at hf ⊢;obtain⟨h1,h2⟩:=y9Q big p (hp p (by simp)) (ps.flatMap (bytesP big));have hl:0<(bytesP big p).length:=List.length_pos_iff.2 h2;rw[zH]at hf;obtain⟨f,rfl⟩:∃g,f=g+1:=⟨f-1,by omega⟩;have ht:tokW big (bytesP big p++ps.flatMap (bytesP big))=some (encR p,(bytesP big p).length):=by
   unfold tokW;rw[h1,if_neg (by simp only;omega)]
  rw[y05 f _ n acc _ _ (by simp[h2]) ht,List.drop_left,ih f _ _ (fun q hq=>hp q (by simp[hq])) (by omega),y8x];simp
theorem y69(big:Bool)(l:List UInt8)(h:(scanL l).2=none):decT (tokW big) ((pts l).flatMap (bytesP big))=(l,none):=by
 obtain⟨e,hs⟩:=y87 l h;unfold decT;rw[wv_pts big (pts l) _ 0 [] hs zA,<-e];rfl
open Go Go.Rf
theorem yJg(l:List UInt8):y3c (239::187::191::l)=(7,3):=by rw[y7V];simp
theorem markLe(l:List UInt8):y3c (255::254::l)=(8,2):=by rw[y7V];simp
theorem markBe(l:List UInt8):y3c (254::255::l)=(9,2):=by rw[y7V];simp
theorem yIk(big:Bool)(b t:ByteArray)(w:World)(hb:b.size<=1048576)(h:decT (tokW big) (bl b)=(bl t,none)):
 Calls prog 108 #[.int .i64 (if big=true then 9 else 8),.string b] w fun e w'=>e=.returned (.tuple #[.string t,.agg faZ])/\Below w.heap.size w w':=by
 have h9:decide ((if big=true then(9:Int)else 8)=9)=big:=by cases big<;>rfl
 have h8:8<=(if big=true then(9:Int)else 8):=by cases big<;>decide
 have h7:(if big=true then(9:Int)else 8)<=9:=by cases big<;>decide
 have:=y48 (if big=true then 9 else 8) b w (by omega) h8 h7;unfold CDecPost at this;rw[y1A _ _ (by omega),yIU _ h8,h9,h]at this;rw[show(⟨(bl t).toArray⟩:ByteArray)=t from y1Z t]at this;exact this
theorem yER(f:Nat):∀l:List UInt8,(ptsF f l).length<=f:=by
 induction f with
 | zero=>intro l;exact zA
 | succ f ih=>intro l;rw[ptsF];split
              . simp
              . rw[List.length_cons];have:=ih (l.drop (dec l).2);omega
theorem yAe(big:Bool)(p:Int):(bytesP big p).length<=4:=by
 unfold bytesP y6A;split<;>simp[y31]
end
open Go Go.Rf Go.RowKit Go.Proofs.Tryz
def KeptB(v:Value)(w w':World):Prop:=∀k,k<w.heap.size->some k≠v.ownBlock->w'.heap[k]?=w.heap[k]?
theorem yEH(v:Value)(n:Nat)(cs:List Value)(B:Nat)(t:ByteArray)(w:World)(H6:w.ownsRow B 99 3 v n cs)(hn:n<1000000)(hB:B<=w.heap.size):
 Calls prog 27 #[v,.string t] w fun e w'=>(∃v',e=.returned v'/\w'.ownsRow B 99 3 v' (n+1) (cs ++ [.bool true,.string ⟨#[109,97,114,107]⟩,.string t]))/\Below B w w'/\KeptB v w w':=by
 obtain⟨a1,c1,rfl⟩:=zN H6;have H8:n<70368744177664:=by omega
 have H7:(n+1)*40<=140737488355328:=by omega
 go_enter func27,ntmps27
 go_wp2_with (first
  | (at_builtin;refine zR rfl _ _ 29 99 rfl underlying29 Y3 3 40 infoPc rfl (by decide) w B (.slice a1 n c1) n cs rfl H6 #[.bool true,.string ⟨#[109,97,114,107]⟩,.string t] rfl (by simp[Value.oneCell']) rfl H8 H7 hB ?_;intro v' w6 H5 Ha H9)
  | fail)
 go_ret
 exact⟨⟨_,rfl,H5⟩,Ha,H9⟩
theorem y9f(v:Value)(n:Nat)(cs:List Value)(B:Nat)(m t:ByteArray)(w:World)(H6:w.ownsRow B 99 3 v n cs)(hn:n<1000000)(hB:B<=w.heap.size):
 Calls prog 29 #[v,.string m,.string t] w fun e w'=>(∃v',e=.returned v'/\w'.ownsRow B 99 3 v' (n+1) (cs ++ [.bool false,.string m,.string t]))/\Below B w w'/\KeptB v w w':=by
 obtain⟨a1,c1,rfl⟩:=zN H6;have H8:n<70368744177664:=by omega
 have H7:(n+1)*40<=140737488355328:=by omega
 go_enter func29,ntmps29
 go_wp2_with (first
  | (at_builtin;refine zR rfl _ _ 29 99 rfl underlying29 Y3 3 40 infoPc rfl (by decide) w B (.slice a1 n c1) n cs rfl H6 #[.bool false,.string m,.string t] rfl (by simp[Value.oneCell']) rfl H8 H7 hB ?_;intro v' w6 H5 Ha H9)
  | fail)
 go_ret
 exact⟨⟨_,rfl,H5⟩,Ha,H9⟩
theorem yAL{w w':World}{B B' n m:Nat}{v fv:Value}{cs cs':List Value}(hO:w.ownsRow B 99 3 v n cs)(hF:w.ownsRow B' 9 1 fv m cs')(hk:KeptB v w w'):w'.ownsRow B' 9 1 fv m cs':=by
 refine za hF (fun k H5=>?_);rcases hF.2 with⟨rfl,_⟩|⟨g,cap,cur,rfl,_,hh,_⟩
 . simp[Value.ownBlock]at H5
 . simp only[Value.ownBlock,Option.some.injEq]at H5
   subst H5;exact hk _ (lt_of_block hh) (y0s hO hh (by decide))
structure Two (B:Nat) (w:World) (v:Value) (A:List Pc) (fv:Value) (F:List ByteArray):Prop where
 o:w.ownsRow B 99 3 v A.length (pcC A)
 f:w.ownsRow B 9 1 fv F.length (scells F)
theorem Two.bel{B:Nat}{w w':World}{v fv:Value}{A:List Pc}{F:List ByteArray}(h:Two B w v A fv F)(hb:Below w.heap.size w w'):Two B w' v A fv F:=⟨zK h.o hb,zK h.f hb⟩
theorem rputF{B:Nat}{w0:World}{v fv:Value}{A:List Pc}{F:List ByteArray}(h:Two B w0 v A fv F)(t:ByteArray)(w:World)(hb:Below w0.heap.size w0 w)(hn:A.length<1000000)(hB:B<=w0.heap.size):
 Calls prog 27 #[v,.string t] w fun e w'=>∃v',e=.returned v'/\Two B w' v' (A ++ [mkP t]) fv F/\Below B w0 w':=by
 have h2:=h.bel hb;refine(yEH v A.length (pcC A) B t w h2.o hn (zE hB hb.size)).mono ?_;rintro e w' ⟨⟨v',rfl,ho⟩,H5,hk⟩;exact⟨v',rfl,⟨by rw[zo,zH];exact ho,yAL h2.o h2.f hk⟩,(hb.mono hB).trans H5⟩
theorem yEE{B:Nat}{w0:World}{v fv:Value}{A:List Pc}{F:List ByteArray}(h:Two B w0 v A fv F)(m t:ByteArray)(w:World)(hb:Below w0.heap.size w0 w)(hn:A.length<1000000)(hB:B<=w0.heap.size):
 Calls prog 29 #[v,.string m,.string t] w fun e w'=>∃v',e=.returned v'/\Two B w' v' (A ++ [txP m t]) fv F/\Below B w0 w':=by
 have h2:=h.bel hb;refine(y9f v A.length (pcC A) B m t w h2.o hn (zE hB hb.size)).mono ?_;rintro e w' ⟨⟨v',rfl,ho⟩,H5,hk⟩;exact⟨v',rfl,⟨by rw[zo,zH];exact ho,yAL h2.o h2.f hk⟩,(hb.mono hB).trans H5⟩
def fsL(st:Sc):List ByteArray:=st.fs.getD []
theorem evP_fs(st:Sc)(h v:ByteArray):evP st.fs h v=evP (some (fsL st)) h v:=by
 unfold fsL;cases st.fs with
 | some F=>rfl
 | none=>
  show none=(match evG false [] (cutN v 0)with|some l=>some (mkP h::l)|none=>none);rw[yAW,Lib.splitB_zero];rfl
