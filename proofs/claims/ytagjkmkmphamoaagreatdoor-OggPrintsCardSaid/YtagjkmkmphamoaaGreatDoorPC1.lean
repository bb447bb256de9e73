/- C1 -/
import Derived.Deep.RegionHeld3
import Derived.Test.YtagjkmkmphamoaaGreatDoorPC0
import Derived.Test.YtagjkmkmphamoaaGreatDoorPB4
import Derived.Test.YtagjkmkmphamoaaGreatDoorPB9
set_option linter.all false
set_option maxHeartbeats 8000000
namespace Go.Proofs.YtagjkmkmphamoaaGreatDoor
open Go.RowKit
theorem xd9(p:PG)(four:ByteArray)(h4:four.size=4):(toB (gpartsL p (bl four))).size=27+p.la.size+p.bo.size:=by
 rw[szB,kv8 p _ (by rw[jb1,h4])]
set_option maxRecDepth 100000 in
theorem rp17_any(p:PG)(w:World)(hg:okG p)(hl:p.la.size≤500000000∧p.bo.size≤500000000):
 Calls Tryz.prog 45 #[.agg #[.int .i64 p.fl.toNat,.int .u64 p.po,.int .u64 p.se,.int .u64 p.nu,.string p.la,.string p.bo]] w fun e w'=>e=.returned (.string (toB (gprintL crcN p)))∧Below w.heap.size w w':=by
 have k1:∀w,Calls Tryz.prog 85 #[.agg #[.int .i64 p.fl.toNat,.int .u64 p.po,.int .u64 p.se,.int .u64 p.nu,.string p.la,.string p.bo],.string ⟨#[0,0,0,0]⟩] w fun e w'=>e=.returned (.string (toB (gpartsL p [0,0,0,0])))∧Below w.heap.size w w':=fun w=>qg1 p ⟨#[0,0,0,0]⟩ w hg hl rfl
 have hz:(toB (gpartsL p [0,0,0,0])).size≤1073741824:=by
  have:=xd9 p ⟨#[0,0,0,0]⟩ rfl;rw[show bl ⟨#[0,0,0,0]⟩ = [0,0,0,0] from rfl]at this;rw[this];omega
 have k2:∀w,Calls Tryz.prog 84 #[.int .u64 0,.string (toB (gpartsL p [0,0,0,0]))] w fun e w'=>e=.returned (.int .u64 (gsumM crcN p:Nat))∧w=w':=fun w=>by
  have:=vt2 (toB (gpartsL p [0,0,0,0])) w hz;rw[jf5]at this;exact this
 have hsl:gsumM crcN p<4294967296:=kc7 _;have k3:∀w,Calls Tryz.prog 70 #[.int .u64 (gsumM crcN p:Nat),.int .i64 4] w fun e w'=>e=.returned (.string (toB (leL (gsumM crcN p) 4)))∧Below w.heap.size w w':=fun w=>jq0 (gsumM crcN p) 4 w (by omega) (by omega)
 have k4:∀w,Calls Tryz.prog 85 #[.agg #[.int .i64 p.fl.toNat,.int .u64 p.po,.int .u64 p.se,.int .u64 p.nu,.string p.la,.string p.bo],.string (toB (leL (gsumM crcN p) 4))] w fun e w'=>e=.returned (.string (toB (gprintL crcN p)))∧Below w.heap.size w w':=fun w=>by
  have:=qg1 p (toB (leL (gsumM crcN p) 4)) w hg hl (by rw[szB,kg8]);rw[jf5]at this;exact this
 generalize toB (gprintL crcN p)=R at *;generalize toB (gpartsL p [0,0,0,0])=A at *;generalize toB (leL (gsumM crcN p) 4)=S at *;generalize gsumM crcN p=m at *;obtain⟨fl,po,se,nu,la,bo⟩:=p;simp only at k1 k2 k3 k4 ⊢;generalize fl.toNat=fn at *;clear hg hl hz;obtain⟨W,hW⟩:∃W,W=w.alloc (.cells #[.int .i64 fn,.int .u64 po,.int .u64 se,.int .u64 nu,.string la,.string bo] 40):=⟨_,rfl⟩;have hbW:Below w.heap.size w W:=by rw[hW];exact bal (Below.refl _ _) _
 have B0:W.heap[w.heap.size]?=some (.cells #[.int .i64 fn,.int .u64 po,.int .u64 se,.int .u64 nu,.string la,.string bo] 40 (0,0)):=by rw[hW];exact heap_alloc_new _ _
 obtain⟨p0,p1,p2,p3,p4,p5⟩:=gvL B0;have K1:=Lib.hid k1;have K2:=Lib.hid k2;have K3:=Lib.hid k3;have K4:=Lib.hid k4;have HBW:=Lib.hid hbW;have HB0:=Lib.hid B0;clear k1 k2 k3 k4 hbW B0
 go_enter Tryz.func45,Tryz.ntmps45
 go_wp2_with fail
 rw[←hW];clear hW
 go_wp2_with (first
  | (go_at_call 85;(with_reducible refine(K1.out _).mono ?_);rintro e w1 ⟨rfl,hb1⟩)
  | (go_at_call 84;(with_reducible refine(K2.out _).mono ?_);rintro e w2 ⟨rfl,rfl⟩)
  | fail)
 obtain⟨q0,q1,q2,q3,q4,q5⟩:=gvL (blkP HB0.out hb1);have hbx:=bt HBW.out hb1;have y0:=fun y:Grown w1=>y.cell q0
 have y1:=fun y:Grown w1=>y.cell q1
 have y2:=fun y:Grown w1=>y.cell q2
 have y3:=fun y:Grown w1=>y.cell q3
 have y4:=fun y:Grown w1=>y.cell q4
 have y5:=fun y:Grown w1=>y.cell q5
 have HBX:=Lib.hid hbx;clear p0 p1 p2 p3 p4 p5 q0 q1 q2 q3 q4 q5 hb1 hbx;refine wp_region_grown (by kernel_rfl) (by kernel_rfl) ?_
 repeat (first|go_big_quiet_step ((first|(go_at_call 70;exact Calls.grown_of (K3.out _))|(go_at_call 85;exact Calls.grown_of (K4.out _))))|quiet_step ((first|(go_at_call 70;exact Calls.grown_of (K3.out _))|(go_at_call 85;exact Calls.grown_of (K4.out _)))))
 refine wpQuiet_nil ?_;intro _ hw';obtain⟨xg,rfl⟩:=hw';have hbg:=bt HBX.out xg.bel
 go_wp2_with fail
 go_ret
 exact⟨rfl,hbg⟩
set_option maxRecDepth 100000 in
theorem qz2(p:PG)(w:World)(hl:p.la.size≤1073741824):
 Calls Tryz.prog 24 #[.agg #[.int .i64 p.fl.toNat,.int .u64 p.po,.int .u64 p.se,.int .u64 p.nu,.string p.la,.string p.bo]] w fun e w'=>e=.returned (.int .i64 (gcheckM p))∧Below w.heap.size w w':=by
 have k1:∀w,Calls Tryz.prog 53 #[.string p.la] w fun e w'=>e=.returned (.int .i64 (totL (bl p.la)))∧Below w.heap.size w w':=fun w=>(qm1 p.la w hl).mono fun e w' ⟨h1,h2⟩=>⟨h1,by rw[h2];exact Below.refl _ _⟩
 obtain⟨R,hR⟩:∃R,R=gcheckM p:=⟨_,rfl⟩;rw[←hR];unfold gcheckM at hR;generalize totL (bl p.la)=T at *;obtain⟨fl,po,se,nu,la,bo⟩:=p;simp only at k1 hR hl ⊢;generalize fl.toNat=fn at *;obtain⟨W,hW⟩:∃W,W=w.alloc (.cells #[.int .i64 fn,.int .u64 po,.int .u64 se,.int .u64 nu,.string la,.string bo] 40):=⟨_,rfl⟩;have hbW:Below w.heap.size w W:=by rw[hW];exact bal (Below.refl _ _) _
 obtain⟨p0,p1,p2,p3,p4,p5⟩:=gvL (show W.heap[w.heap.size]?=some (.cells #[.int .i64 fn,.int .u64 po,.int .u64 se,.int .u64 nu,.string la,.string bo] 40 (0,0)) by rw[hW];exact heap_alloc_new _ _);have K1:=Lib.hid k1;have HBW:=Lib.hid hbW;clear k1 hbW;by_cases h1:255<la.size
 · rw[if_pos h1]at hR
   have h2:(la.size:Int) > 255:=by omega
   have HR:=Lib.hid hR;clear h1 hR
   go_enter Tryz.func24,Tryz.ntmps24
   go_wp2_with fail
   go_ret
   exact⟨by rw[HR.out];rfl,by rw[←hW];exact HBW.out⟩
 · rw[if_neg h1]at hR
   have h2:¬(la.size:Int) > 255:=by omega
   have y4:=fun y:Grown W=>y.cell p4
   have y5:=fun y:Grown W=>y.cell p5
   by_cases h3:bo.size=T
   · rw[if_neg (fun c=>c h3)]at hR
     have b1:((T:Int)==(bo.size:Int))=true:=by rw[beq_iff_eq];omega
     have b1n:((T:Int) != (bo.size:Int))=false:=by simp only[bne,b1,Bool.not_true]
     have HR:=Lib.hid hR;clear h1 hR h3
     go_enter Tryz.func24,Tryz.ntmps24
     go_wp2_with fail
     rw[←hW];clear hW;refine wp_region_grown (by kernel_rfl) (by kernel_rfl) ?_
     repeat (first|go_big_quiet_step ((go_at_call 53;exact Calls.grown_of (K1.out _)))|quiet_step ((go_at_call 53;exact Calls.grown_of (K1.out _))))
     refine wpQuiet_nil ?_;intro _ hw';obtain⟨xg,rfl⟩:=hw';have hbg:=bt HBW.out xg.bel
     go_wp2_with fail
     go_ret
     exact⟨by rw[HR.out];rfl,hbg⟩
   · rw[if_pos h3]at hR
     have b1:((T:Int)==(bo.size:Int))=false:=by rw[beq_eq_false_iff_ne];omega
     have b1n:((T:Int) != (bo.size:Int))=true:=by simp only[bne,b1,Bool.not_false]
     have HR:=Lib.hid hR;clear h1 hR h3
     go_enter Tryz.func24,Tryz.ntmps24
     go_wp2_with fail
     rw[←hW];clear hW;refine wp_region_grown (by kernel_rfl) (by kernel_rfl) ?_
     repeat (first|go_big_quiet_step ((go_at_call 53;exact Calls.grown_of (K1.out _)))|quiet_step ((go_at_call 53;exact Calls.grown_of (K1.out _))))
     refine wpQuiet_nil ?_;intro _ hw';obtain⟨xg,rfl⟩:=hw';have hbg:=bt HBW.out xg.bel
     go_wp2_with fail
     go_ret
     exact⟨by rw[HR.out];rfl,hbg⟩
theorem eq_blO(a:ByteArray)(l:List UInt8):(a.toList==l)=decide (bl a=l):=by
 rw[ByteArray.toList_eq];by_cases h:a.data.toList=l<;>simp[h,bl]
theorem vv4(l:List UInt8)(n:UInt8):preM l (vorb n)=(decide (7≤l.length)&&(decide (l.head?=some n)&&decide ((l.drop 1).take 6 = [118,111,114,98,105,115]))):=by
 unfold preM;rw[Bool.eq_iff_iff];simp only[decide_eq_true_eq,Bool.and_eq_true];show l.take 7=vorb n↔_
 constructor
 · intro h
   have h1:7≤l.length:=by
    have:=congrArg List.length h;rw[List.length_take]at this;have e:(vorb n).length=7:=rfl;omega
   refine⟨h1,?_,?_⟩
   · cases l with
     | nil=>simp at h1
     | cons a r=>simp[vorb]at h ⊢;exact h.1
   · cases l with
     | nil=>simp at h1
     | cons a r=>simp[vorb]at h ⊢;exact h.2
 · rintro⟨h1,h2,h3⟩
   cases l with
   | nil=>simp at h1
   | cons a r=>simp[vorb]at h2 h3 ⊢;exact⟨h2,h3⟩
theorem jg3(s:ByteArray)(n:UInt8)(w:World):Calls Tryz.prog 23 #[.string s,.int .u8 n.toNat] w fun e w'=>e=.returned (.bool (preM (bl s) (vorb n)))∧w=w':=by
 have hp:=vv4 (bl s) n;rw[jb1]at hp;by_cases h7:7≤s.size
 · obtain⟨b,hb⟩:=jb6 (bl s) 0 (by rw[jb1];omega)
   have X:∀h,s[0]'h=b:=jc7 s 0 b hb;have hh:(bl s).head?=some b:=by rw[List.head?_eq_getElem?];exact hb
   have he:bl (s.extract 1 7)=((bl s).drop 1).take 6:=jr1 s 1 7;have hq:((s.extract 1 7).toList == [118,111,114,98,105,115])=decide (((bl s).drop 1).take 6 = [118,111,114,98,105,115]):=by rw[eq_blO,he]
   have g7:(s.size:Int) ≥ 7:=by omega
   rw[hh,decide_eq_true h7,Bool.true_and]at hp;generalize decide (((bl s).drop 1).take 6 = [118,111,114,98,105,115])=q at *;by_cases hbn:b=n
   · subst hbn
     rw[decide_eq_true rfl,Bool.true_and]at hp;have HP:=Lib.hid hp;clear hp hb hh he h7
     go_enter Tryz.func23,Tryz.ntmps23
     go_wp2_with fail
     go_ret
     exact⟨jg0 (by rw[HP.out]),rfl⟩
   · have hd:decide (some b=some n)=false:=by simp[hbn]
     rw[hd,Bool.false_and]at hp;have hnb:((b.toNat:Int)==(n.toNat:Int))=false:=by
      rw[beq_eq_false_iff_ne];intro h;exact hbn (UInt8.toNat_inj.1 (by omega))
     have HP:=Lib.hid hp;have hne:¬(b.toNat:Int)=(n.toNat:Int):=by simpa using hnb
     clear hp hb hh he h7 hd hbn hq
     go_enter Tryz.func23,Tryz.ntmps23
     go_wp2_with fail
     go_ret
     exact⟨jg0 (by rw[HP.out];try exact hnb),rfl⟩
 · have hp2:preM (bl s) (vorb n)=false:=by rw[hp,decide_eq_false h7];rfl
   have g7:¬(s.size:Int) ≥ 7:=by omega
   rw[hp2];clear hp hp2 h7
   go_enter Tryz.func23,Tryz.ntmps23
   go_wp2_with fail
   go_ret
   exact⟨rfl,rfl⟩
structure KJ (w:World) (v:Value) (ps:List (List UInt8)) (wr:World):Prop where
 gg:Below w.heap.size w wr
 r1:wr.ownsRow w.heap.size 9 1 v ps.length (scells (ps.map toB))
theorem KJ.bel{w wr w':World}{v:Value}{ps:List (List UInt8)}(h:KJ w v ps wr)(hb:Below wr.heap.size wr w'):KJ w v ps w':=⟨bt h.gg hb,jb2 h.r1 hb⟩
theorem KJ.push{w wr w':World}{v v':Value}{ps:List (List UInt8)}{s:List UInt8}(h:KJ w v ps wr)(ho:w'.ownsRow w.heap.size 9 1 v' (ps.length+1) (scells (ps.map toB)++(#[.string (toB s)]:Array Value).toList))(hb:Below w.heap.size wr w'):KJ w v' (ps ++ [s]) w':=
 ⟨h.gg.trans hb,by rw[List.map_append,jd4,List.length_append];exact ho⟩
def irel(S T:List UInt8)(k t:Nat)(ps:List (List UInt8))(pt:List UInt8)(op:Bool)(P1:List (List UInt8))(p1:List UInt8)(o1:Bool):Prop:=
 ps++(cutG (S.drop k) (T.drop t) pt).1=P1∧(cutG (S.drop k) (T.drop t) pt).2=p1∧openL op (S.drop k)=o1
theorem qh6(op:Bool)(c:UInt8)(r:List UInt8):openL op (c::r)=openL (c==255) r:=by
 have:=jg5 op [c] r;rw[List.singleton_append]at this;rw[←this]
 rfl
theorem xc7{S T:List UInt8}{k t:Nat}{ps:List (List UInt8)}{pt:List UInt8}{op:Bool}{P1:List (List UInt8)}{p1:List UInt8}{o1:Bool}(h:irel S T k t ps pt op P1 p1 o1)(hc:S[k]?=some 255):irel S T (k+1) (t+255) ps (pt++(T.drop t).take 255) true P1 p1 o1:=by
 obtain⟨h1,h2⟩:=List.getElem?_eq_some_iff.1 hc;unfold irel at h ⊢;rw[List.drop_eq_getElem_cons h1,h2,cutG,if_pos rfl,qh6,List.drop_drop]at h;exact h
theorem irel_end{S T:List UInt8}{k t:Nat}{ps:List (List UInt8)}{pt:List UInt8}{op:Bool}{P1:List (List UInt8)}{p1:List UInt8}{o1:Bool}{c:UInt8}(h:irel S T k t ps pt op P1 p1 o1)(hc:S[k]?=some c)(hn:c≠255):irel S T (k+1) (t+c.toNat) (ps ++ [pt++(T.drop t).take c.toNat]) [] false P1 p1 o1:=by
 obtain⟨h1,h2⟩:=List.getElem?_eq_some_iff.1 hc;unfold irel at h ⊢;have h0:(c==255)=false:=by simpa using hn
 rw[List.drop_eq_getElem_cons h1,h2,cutG,if_neg hn,qh6,List.drop_drop,h0]at h;rw[List.append_assoc];exact h
theorem xc8{S T:List UInt8}{k t:Nat}{ps:List (List UInt8)}{pt:List UInt8}{op:Bool}{P1:List (List UInt8)}{p1:List UInt8}{o1:Bool}(h:irel S T k t ps pt op P1 p1 o1)(hk:S.length≤k):ps=P1∧pt=p1∧op=o1:=by
 unfold irel at h;rw[List.drop_of_length_le hk]at h;simpa[cutG,openL]using h
def RJPost(R:List (List UInt8)×Int×Int)(w:World)(e:Ending)(w':World):Prop:=
 Below w.heap.size w w'∧∃v,e=.returned (.tuple #[v,.int .i64 (if R.2.1=0 then -1 else R.2.2)])∧w'.ownsRow w.heap.size 9 1 v R.1.length (scells (R.1.map toB))
set_option maxRecDepth 100000 in
theorem vt4(v:Value)(l:List PG)(w:World)(hrow:Row w v l.length (rgcells l))(hn:l.length≤100000)(hsm:∀p∈l,p.la.size≤1073741824∧p.bo.size≤1073741824):
 Calls Tryz.prog 50 #[v] w (RJPost (joinG l 0 false [] []) w):=by
 obtain⟨av,cap,rfl,hc⟩:=hrow;obtain⟨R,hR⟩:∃R,R=joinG l 0 false [] []:=⟨_,rfl⟩;rw[←hR];obtain⟨n,hn'⟩:∃n,n=l.length:=⟨_,rfl⟩;rw[←hn']at hn ⊢;have J0:KJ w (.slice none 0 0) [] w:=⟨Below.refl _ _,World.ownsRow_nil _ _ _ _⟩;have HC:=Lib.hid hc;have HR:=Lib.hid hR;have HN:=Lib.hid hn';have HSM:=Lib.hid hsm;have HJ0:=Lib.hid J0;clear hc hR hn' hsm J0
 go_enter Tryz.func50,Tryz.ntmps50
 go_wp2_with fail
 go_loopw [4,5,6,7] (fun pv sv ov iv wr=>∃(i:Nat) (op:Bool) (ps:List (List UInt8)) (pt:ByteArray),iv=.int .i64 (i:Int)∧ov=.bool op∧sv=.string pt∧Hid (KJ w pv ps wr)∧i≤n∧ps.length≤255*i∧pt.size≤65025*i∧Hid (joinG (l.drop i) i op ps (bl pt)=R)) (fun _ _ _ iv _=>n-(intOf iv).toNat)
 case atStart=>exact⟨0,false,[],⟨#[]⟩,rfl,rfl,rfl,HJ0,Nat.zero_le _,Nat.zero_le _,Nat.zero_le _,Lib.hid (by rw[List.drop_zero];exact HR.out.symm)⟩
 case round=>
  clear HJ0;obtain⟨i,op,ps,pt,rfl,rfl,rfl,HG,hi,hps,hpt,HP⟩:=hrel;by_cases hlt:i<n
  · obtain⟨p,hp⟩:=jb6 l i (by rw[←HN.out];exact hlt)
    obtain⟨g,o,rfl,d0,d1,d2,d3,d4,d5⟩:=qq9 HC.out i p hp;have d0:=kc HG.out.gg d0;have d1:=kc HG.out.gg d1;have d2:=kc HG.out.gg d2;have d3:=kc HG.out.gg d3;have d4:=kc HG.out.gg d4;have d5:=kc HG.out.gg d5;obtain⟨s1,s2⟩:=HSM.out p (List.mem_of_getElem? hp);have hP:=HP.out;obtain⟨hp1,hp2⟩:=List.getElem?_eq_some_iff.1 hp;rw[List.drop_eq_getElem_cons hp1,hp2,joinG]at hP;have k1:=fun w=>qz2 p w s1
    have m0:(0:Int)≤(i:Int):=by omega
    have m1:(i:Int)<(n:Int):=by omega
    have hcg0:contG p=(p.fl.toNat%2==1):=rfl;have q1:(((p.fl.toNat:Int))%2==1)=contG p:=by
     rw[hcg0,Bool.eq_iff_iff,beq_iff_eq,beq_iff_eq];omega
    have q2:decide (((p.fl.toNat:Int))%2=1)=contG p:=by rw[←q1];rfl
    clear hp1 hp2 HP hcg0;by_cases hck:gcheckM p=0
    · rw[hck]at k1
      by_cases hcg:contG p=op
      · rw[if_neg (by rintro(h|h);exact h hck;exact h hcg)]at hP
        obtain⟨t1,t2⟩:=(jj7 p).1 hck;have hst:irel (bl p.la) (bl p.bo) 0 0 ps (bl pt) op (ps++(cutG (bl p.la) (bl p.bo) (bl pt)).1) (cutG (bl p.la) (bl p.bo) (bl pt)).2 (openL op (bl p.la)):=⟨rfl,rfl,rfl⟩;generalize ps++(cutG (bl p.la) (bl p.bo) (bl pt)).1=P1 at *;generalize (cutG (bl p.la) (bl p.bo) (bl pt)).2=part1 at *;generalize openL op (bl p.la)=op1 at *;rw[hcg]at q1 q2;have hLL:=jb1 p.la;have hbne:(op != op)=false:=by simp
        have K1:=Lib.hid k1;have HP2:=Lib.hid hP;have HST:=Lib.hid hst;have T2:=Lib.hid t2;have HLL:=Lib.hid hLL;clear k1 hP hst t2 hLL;clear hck hcg hp s1 s2
        go_wp2_with (first
         | (go_at_call 24;(with_reducible refine(K1.out _).mono ?_);rintro e1 w1 ⟨rfl,hb1⟩;have G1:=(HG.out.bel (bal (Below.refl _ _) (.cells #[.int .i64 p.fl.toNat,.int .u64 p.po,.int .u64 p.se,.int .u64 p.nu,.string p.la,.string p.bo] 40))).bel hb1;have B1:=blkP (heap_alloc_new wr (.cells #[.int .i64 p.fl.toNat,.int .u64 p.po,.int .u64 p.se,.int .u64 p.nu,.string p.la,.string p.bo] 40)) hb1;obtain⟨p0,p1,p2,p3,p4,p5⟩:=gvL B1)
         | fail)
        have GB:=Lib.hid G1;have BB:=Lib.hid B1;clear G1 B1 hb1 p0 p1 p2 p3 p4 p5 d0 d1 d2 d3 d4 d5;obtain⟨fl,po,se,nu,S,T⟩:=p;simp only at t1 K1 HST T2 HLL BB ⊢;generalize wr.heap.size=P at *;generalize (fl.toNat:Int)=f at *
        go_loopw [4,5,6,9,10] (fun pv sv ov tv kv wr=>∃(k tz:Nat) (ps':List (List UInt8)) (pt':ByteArray) (op':Bool),kv=.int .i64 (k:Int)∧tv=.int .i64 (tz:Int)∧ov=.bool op'∧sv=.string pt'∧Hid (KJ w pv ps' wr)∧Hid (wr.heap[P]?=some (.cells #[.int .i64 f,.int .u64 po,.int .u64 se,.int .u64 nu,.string S,.string T] 40 (0,0)))∧k≤S.size∧Hid (tz=totL ((bl S).take k))∧ps'.length≤255*i+k∧pt'.size≤65025*i+255*k∧Hid (irel (bl S) (bl T) k tz ps' (bl pt') op' P1 part1 op1)) (fun _ _ _ _ kv _=>S.size-(intOf kv).toNat)
        case atStart=>exact⟨0,0,ps,pt,op,rfl,rfl,rfl,rfl,GB,BB,Nat.zero_le _,Lib.hid rfl,hps,by omega,HST⟩
        case round=>
         clear GB BB HST;obtain⟨k,tz,ps2,pt2,op2,rfl,rfl,rfl,rfl,HG2,HB2,hk,HTZ,hps2,hpt2,HJ⟩:=hrel;obtain⟨c4,c4'⟩:=jb0 HB2.out 4 _ rfl;obtain⟨c5,c5'⟩:=jb0 HB2.out 5 _ rfl;have htle:=jf1 ((bl S).take k);rw[List.length_take,←HTZ.out]at htle;by_cases hl2:k<S.size
         · obtain⟨c,hc⟩:=jb6 (bl S) k (by rw[HLL.out];exact hl2)
           have X:∀h,S[k]'h=c:=jc7 S k c hc;have hst:=jr7 (bl S) k c hc;rw[←HTZ.out]at hst;have hcl:=c.toNat_lt;have hle2:tz+c.toNat≤T.size:=by
            rw[T2.out,←hst]
            conv=>rhs;rw[←List.take_append_drop (k+1) (bl S),jc8]
            omega
           have j0:(0:Int)≤(k:Int):=by omega
           have j1:(k:Int)<(S.size:Int):=by omega
           have hTs:T.size≤300000000000:=by
            have:=jf1 (bl S);rw[T2.out];rw[HLL.out]at this;omega
           obtain⟨tn,htn⟩:∃tn,tn=tz+c.toNat:=⟨_,rfl⟩;have hwr:IntKind.i64.wrap ((tz:Int)+(c.toNat:Int))=(tn:Int):=by rw[wi64 _ (by omega) (by omega)];omega
           have i0:(0:Int)≤(tz:Int):=by omega
           have i1:(tz:Int)≤(tn:Int):=by omega
           have i2:(tn:Int)≤(T.size:Int):=by omega
           have hx:=jr1 T tz tn;have hxs:(T.extract tz tn).size=tn-tz:=by rw[ByteArray.size_extract];omega
           have hxc:tn-tz=c.toNat:=by omega
           rw[hxc]at hx hxs;have HTZ2:Hid (tn=totL ((bl S).take (k+1))):=Lib.hid (by rw[htn];exact hst.symm);have v1:¬(pt2.size+c.toNat > 9223372036854775807):=by omega
           have v2:pt2.size+c.toNat≤9223372036854775807:=by omega
           by_cases h255:c=255
           · subst h255
             have hj:=xc7 HJ.out hc;rw[show((255:UInt8).toNat)=255 from rfl]at hx htn hxs v1 v2 hwr;have hwr2:IntKind.i64.wrap ((tz:Int)+255)=(tz:Int)+255:=wi64 _ (by omega) (by omega);have i1':(tz:Int)≤(tz:Int)+255:=by omega
             have i2':(tz:Int)+255≤(T.size:Int):=by omega
             have i3':(0:Int)≤(tz:Int)+255:=by omega
             rw[←hx,←jd6,←htn]at hj;have HJ2:=Lib.hid hj;have hsz:(pt2++T.extract tz tn).size≤65025*i+255*(k+1):=by rw[ByteArray.size_append,hxs];omega
             have HSZ:=Lib.hid hsz;subst htn;clear hj hst hc htle hx hsz hle2 hxc hwr
             go_wp2_with fail
             exact⟨⟨k+1,tz+255,ps2,pt2++T.extract tz (tz+255),true,by go_num,by go_num,rfl,rfl,HG2,HB2,by omega,HTZ2,by omega,HSZ.out,HJ2⟩,by simp[intOf];omega⟩
           · have hne:¬(c.toNat:Int)=255:=fun h=>h255 (UInt8.toNat_inj.1 (by show c.toNat=255;omega))
             have hq:((c.toNat:Int)==255)=false:=by rw[beq_eq_false_iff_ne];exact hne
             have hj:=irel_end HJ.out hc h255;rw[←hx,←jd6,←htn]at hj;have HJ2:=Lib.hid hj;have z3:ps2.length<70368744177664:=by omega
             have z4:(ps2.length+1)*16≤140737488355328:=by omega
             have hzl:=HG2.out.gg.size;have PT:=HG2.out.r1;have hpb:(#[.string (pt2++T.extract tz tn)]:Array Value)=#[.string (toB (bl (pt2++T.extract tz tn)))]:=by rw[qf2]
             have HPB:=Lib.hid hpb;clear hj hst hc htle hx htn h255 HJ HTZ hle2 hxc hpb
             go_wp2_with (first
              | (at_builtin;refine jd9 rfl _ _ 77 9 rfl Tryz.underlying77 (.string ⟨#[]⟩) 1 16 jm6 rfl (by decide) wr w.heap.size u4 ps2.length (scells (ps2.map toB)) rfl PT #[.string (pt2++T.extract tz tn)] rfl (by simp[Value.oneCell']) rfl z3 z4 hzl ?_;intro v8 w8 hown8 hb8 hk8 hl8;rw[HPB.out]at hown8;have G8:=HG2.out.push hown8 hb8;have B8:=(hk8 P (Array.getElem?_eq_some_iff.1 HB2.out).1 (fun e=>jd0 PT HB2.out (by decide) e.symm)).trans HB2.out)
              | fail)
             exact⟨⟨k+1,tn,ps2 ++ [bl (pt2++T.extract tz tn)],⟨#[]⟩,false,by go_num,rfl,rfl,rfl,Lib.hid G8,Lib.hid B8,by omega,HTZ2,by rw[List.length_append];show ps2.length+1≤_;omega,Nat.zero_le _,HJ2⟩,by simp[intOf];omega⟩
         · obtain⟨r1,r2,r3⟩:=xc8 HJ.out (by rw[HLL.out];omega)
           have hP2:=HP2.out;rw[←r1,←r2,←r3]at hP2;have HP3:=Lib.hid hP2;have j1:¬(k:Int)<(S.size:Int):=by omega
           have z5:ps2.length≤255*(i+1):=by omega
           have z6:pt2.size≤65025*(i+1):=by omega
           clear r1 r2 r3 hP2 HJ HTZ htle
           go_wp2_with fail
           exact⟨⟨i+1,op2,ps2,pt2,by go_num,rfl,rfl,HG2,by omega,z5,z6,HP3⟩,by simp[intOf];omega⟩
      · rw[if_pos (.inr hcg)]at hP
        have HRR:Hid (R=([],1,(i:Int))):=Lib.hid hP.symm;have hbne:(contG p != op)=true:=by simpa using hcg
        generalize contG p=cg at *;obtain rfl:op = !cg:=by cases cg<;>cases op<;>simp_all
        have K1:=Lib.hid k1;clear k1;clear hck hcg hp s1 s2 hP hbne;cases cg
        all_goals
         go_wp2_with (first
          | (go_at_call 24;(with_reducible refine(K1.out _).mono ?_);rintro e1 w1 ⟨rfl,hb1⟩;have G1:=(HG.out.bel (bal (Below.refl _ _) (.cells #[.int .i64 p.fl.toNat,.int .u64 p.po,.int .u64 p.se,.int .u64 p.nu,.string p.la,.string p.bo] 40))).bel hb1;have B1:=blkP (heap_alloc_new wr (.cells #[.int .i64 p.fl.toNat,.int .u64 p.po,.int .u64 p.se,.int .u64 p.nu,.string p.la,.string p.bo] 40)) hb1;obtain⟨p0,p1,p2,p3,p4,p5⟩:=gvL B1)
          | fail)
         go_ret2
         exact⟨G1.gg,_,by rw[HRR.out];rfl,by rw[HRR.out];exact World.ownsRow_nil _ _ _ _⟩
    · rw[if_pos (.inl hck)]at hP
      have HRR:Hid (R=([],1,(i:Int))):=Lib.hid hP.symm;have hne:(gcheckM p != 0)=true:=by simpa using hck
      have hne2:¬gcheckM p=0:=hck;generalize gcheckM p=ck at *;have K1:=Lib.hid k1;clear k1;clear hck hp s1 s2 hP
      go_wp2_with (first
       | (go_at_call 24;(with_reducible refine(K1.out _).mono ?_);rintro e1 w1 ⟨rfl,hb1⟩;have G1:=(HG.out.bel (bal (Below.refl _ _) (.cells #[.int .i64 p.fl.toNat,.int .u64 p.po,.int .u64 p.se,.int .u64 p.nu,.string p.la,.string p.bo] 40))).bel hb1)
       | fail)
      go_ret2
      exact⟨G1.gg,_,by rw[HRR.out];rfl,by rw[HRR.out];exact World.ownsRow_nil _ _ _ _⟩
  · have hP:=HP.out
    rw[List.drop_of_length_le (by rw[←HN.out];omega),joinG]at hP;have hin:i=n:=by omega
    have m1:¬(i:Int)<(n:Int):=by omega
    cases op with
    | true=>
     rw[if_pos rfl]at hP;have HRR:Hid (R=([],1,(n:Int))):=Lib.hid (by rw[←hP,hin]);clear hP hin
     go_wp2_with fail
     go_ret2
     exact⟨HG.out.gg,_,by rw[HRR.out];rfl,by rw[HRR.out];exact World.ownsRow_nil _ _ _ _⟩
    | false=>
     rw[if_neg (by decide)]at hP;have HRR:Hid (R=(ps,0,0)):=Lib.hid hP.symm;have hown:=HG.out.r1;clear hP hin
     go_wp2_with fail
     go_ret2
     exact⟨HG.out.gg,_,by rw[HRR.out];rfl,by rw[HRR.out];exact hown⟩
theorem vt5(p:PG):rgcells [p]=(#[.int .i64 p.fl.toNat,.int .u64 p.po,.int .u64 p.se,.int .u64 p.nu,.string p.la,.string p.bo]:Array Value).toList:=rfl
theorem vb5:∀(l:List PG) (j:Nat) (op:Bool) (ps:List (List UInt8)) (pt:List UInt8),0≤(joinG l j op ps pt).2.2
 | [],j,op,ps,pt=>by
  rw[joinG];split
  · exact Int.natCast_nonneg _
  · exact Int.le_refl _
 | p::r,j,op,ps,pt=>by
  rw[joinG];split
  · exact Int.natCast_nonneg _
  · exact vb5 r _ _ _ _
set_option maxRecDepth 100000 in
theorem jn1(p:PG)(w:World)(hl:p.la.size≤1073741824)(hb:p.bo.size≤1073741824):
 Calls Tryz.prog 21 #[.agg #[.int .i64 p.fl.toNat,.int .u64 p.po,.int .u64 p.se,.int .u64 p.nu,.string p.la,.string p.bo]] w fun e w'=>e=.returned (.bool (opensG p))∧Below w.heap.size w w':=by
 have kj:∀w':World,Calls Tryz.prog 50 #[.slice (some ⟨w'.heap.size,0,none⟩) 1 1] (w'.alloc (.cells #[.int .i64 p.fl.toNat,.int .u64 p.po,.int .u64 p.se,.int .u64 p.nu,.string p.la,.string p.bo] 40)) (RJPost (joinG [p] 0 false [] []) (w'.alloc (.cells #[.int .i64 p.fl.toNat,.int .u64 p.po,.int .u64 p.se,.int .u64 p.nu,.string p.la,.string p.bo] 40))):=by
  intro w';exact vt4 _ [p] _ (by rw[vt5];exact kk4 w' _ _ 1) (by simp) (fun q hq=>by simp at hq;subst hq;exact⟨hl,hb⟩)
 have hja:=vb5 [p] 0 false [] [];obtain⟨RR,hRR⟩:∃RR,RR=opensG p:=⟨_,rfl⟩;rw[←hRR];unfold opensG firstG at hRR;generalize joinG [p] 0 false [] []=J at *;obtain⟨ps,c,a⟩:=J;simp only at hRR hja;have hfl:=p.fl.toNat_lt;generalize p.fl.toNat=fn at *;generalize p.la=la at *;generalize p.bo=bo at *;generalize p.po=po at *;generalize p.se=se at *;generalize p.nu=nu at *;have kx:∀(s:ByteArray) (w:World),Calls Tryz.prog 23 #[.string s,.int .u8 1] w fun e w'=>e=.returned (.bool (preM (bl s) (vorb 1)))∧w=w':=fun s w=>jg3 s 1 w
 unfold RJPost at kj;simp only at kj;obtain⟨W,hW⟩:∃W,W=w.alloc (.cells #[.int .i64 fn,.int .u64 po,.int .u64 se,.int .u64 nu,.string la,.string bo] 40):=⟨_,rfl⟩;have hbW:Below w.heap.size w W:=by rw[hW];exact bal (Below.refl _ _) _
 have B0:W.heap[w.heap.size]?=some (.cells #[.int .i64 fn,.int .u64 po,.int .u64 se,.int .u64 nu,.string la,.string bo] 40 (0,0)):=by rw[hW];exact heap_alloc_new _ _
 obtain⟨p0,p1,p2,p3,p4,p5⟩:=gvL B0;have hWs:W.heap.size=w.heap.size+1:=by rw[hW,World.size_alloc]
 have kj:=kj W;rw[hWs]at kj;have hb0:=bal (Below.refl W.heap.size W) (.cells #[.int .i64 fn,.int .u64 po,.int .u64 se,.int .u64 nu,.string la,.string bo] 40);by_cases hc:c=0
 · subst hc
   rw[if_pos rfl]at kj;by_cases hl1:ps.length=1
   · obtain⟨q,rfl⟩:∃q,ps = [q]:=List.length_eq_one_iff.1 hl1
     simp only[List.headD_cons,List.length_cons,List.length_nil,List.map_cons,List.map_nil]at kj hRR;have hR:RR=((fn/2%2==1)&&preM q (vorb 1)):=by rw[hRR];simp
     have kx1:=fun w=>kx (toB q) w
     rw[jf5]at kx1;cases hpv:preM q (vorb 1)with
     | true=>
      rw[hpv]at kx1 hR;rw[Bool.and_true]at hR;have f1:((fn:Int)/2%2==1)=(fn/2%2==1):=by rw[Bool.eq_iff_iff,beq_iff_eq,beq_iff_eq];omega
      have f2:decide ((fn:Int)/2%2=1)=(fn/2%2==1):=by rw[←f1];rfl
      have f3:IntKind.i64.wrap ((fn:Int)/2)=(fn:Int)/2:=wi64 _ (by omega) (by omega);have HR:=Lib.hid hR;have KJ:=Lib.hid kj;have KX:=Lib.hid kx1;have HBW:=Lib.hid hbW;have HB0:=Lib.hid B0;clear kj kx1 hbW B0;clear hl1 kx hRR hR hWs
      go_enter Tryz.func21,Tryz.ntmps21
      go_wp2_with fail
      rw[←hW];clear hW
      go_wp2_with (first
       | (go_at_call 50;refine KJ.out.mono ?_;rintro e1 w1 ⟨hb1,v,rfl,ho⟩;have hb2:=bt hb0 hb1;obtain⟨av,cv,hvv,hcv⟩:=jc2 ho;obtain⟨gv,ov,rfl,hcell⟩:=hcv 0 (.string (toB q)) rfl;subst hvv;rw[Nat.add_zero]at hcell;clear p0 p1 p2 p3 p4 p5;obtain⟨p0,p1,p2,p3,p4,p5⟩:=gvL (blkP HB0.out hb2))
       | (go_at_call 23;(with_reducible refine(KX.out _).mono ?_);rintro e7 w7 ⟨rfl,rfl⟩)
       | fail)
      go_ret
      exact⟨jg0 (by rw[HR.out]),bt HBW.out hb2⟩
     | false=>
      rw[hpv]at kx1 hR;rw[Bool.and_false]at hR;have HR:=Lib.hid hR;have KJ:=Lib.hid kj;have KX:=Lib.hid kx1;have HBW:=Lib.hid hbW;have HB0:=Lib.hid B0;clear kj kx1 hbW B0;clear hl1 kx hRR hR hWs
      go_enter Tryz.func21,Tryz.ntmps21
      go_wp2_with fail
      rw[←hW];clear hW
      go_wp2_with (first
       | (go_at_call 50;refine KJ.out.mono ?_;rintro e1 w1 ⟨hb1,v,rfl,ho⟩;have hb2:=bt hb0 hb1;obtain⟨av,cv,hvv,hcv⟩:=jc2 ho;obtain⟨gv,ov,rfl,hcell⟩:=hcv 0 (.string (toB q)) rfl;subst hvv;rw[Nat.add_zero]at hcell)
       | (go_at_call 23;(with_reducible refine(KX.out _).mono ?_);rintro e7 w7 ⟨rfl,rfl⟩)
       | fail)
      go_ret
      exact⟨jg0 (by rw[HR.out]),bt HBW.out hb2⟩
   · have hR:RR=false:=by rw[hRR];simp[hl1]
     generalize scells (ps.map toB)=cs at *;generalize ps.length=m at *;have hm1:((m:Int)==1)=false:=by rw[beq_eq_false_iff_ne];omega
     have hm2:(m==1)=false:=by rw[beq_eq_false_iff_ne];omega
     have hm3:¬(m:Int)=1:=by omega
     have HR:=Lib.hid hR;have KJ:=Lib.hid kj;have HBW:=Lib.hid hbW;have HB0:=Lib.hid B0;clear kj hbW B0;clear hl1 kx hRR hR hWs
     go_enter Tryz.func21,Tryz.ntmps21
     go_wp2_with fail
     rw[←hW];clear hW
     go_wp2_with (first
      | (go_at_call 50;refine KJ.out.mono ?_;rintro e1 w1 ⟨hb1,v,rfl,ho⟩;have hb2:=bt hb0 hb1;obtain⟨av,cv,rfl⟩:=jb4 ho)
      | fail)
     go_ret
     exact⟨jg0 (by rw[HR.out]),bt HBW.out hb2⟩
 · have hR:RR=false:=by rw[hRR];simp[hc]
   rw[if_neg hc]at kj;generalize scells (ps.map toB)=cs at *;generalize ps.length=m at *;have ha:¬a<0:=by omega
   have ha2:decide (a<0)=false:=decide_eq_false ha;have HR:=Lib.hid hR;have KJ:=Lib.hid kj;have HBW:=Lib.hid hbW;have HB0:=Lib.hid B0;clear kj hbW B0;clear hc kx hRR hR hWs hja
   go_enter Tryz.func21,Tryz.ntmps21
   go_wp2_with fail
   rw[←hW];clear hW
   go_wp2_with (first
    | (go_at_call 50;refine KJ.out.mono ?_;rintro e1 w1 ⟨hb1,v,rfl,ho⟩;have hb2:=bt hb0 hb1;obtain⟨av,cv,rfl⟩:=jb4 ho)
    | fail)
   go_ret
   exact⟨jg0 (by rw[HR.out]),bt HBW.out hb2⟩
end Go.Proofs.YtagjkmkmphamoaaGreatDoor
