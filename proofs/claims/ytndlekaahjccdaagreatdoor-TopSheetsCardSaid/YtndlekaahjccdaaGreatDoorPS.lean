/- PS -/
import Derived.Test.YtndlekaahjccdaaGreatDoorPR
set_option linter.all false
set_option maxRecDepth 100000
set_option maxHeartbeats 40000000
namespace Go.Proofs.YtndlekaahjccdaaGreatDoor
open Go Go.Rf Go.RowKit Go.Proofs.Tryz
theorem y6C:∀(n:Nat) (s:ByteArray) (a:Nat),a+(zm n s a).1.length<=(zm n s a).2
 | 0,s,a=>zA
 | n+1,s,a=>by
  unfold zm;split
  . exact zA
  . rename_i h
    have:=y6C n s (a+momN ((bl s).drop a));simp only[List.length_cons];omega
theorem yA5(st:Unit)(s:ByteArray)(st':Unit)(ps:List Pc)(h:lrcS st s=some (st',ps)):ps.length<=2*s.size:=by
 unfold lrcS at h;have hL:=zJ s;split at h
 . cases h;exact zD
 . simp only at h
   split at h
   . split at h
     . rename_i hn
       cases h;unfold noteOk at hn;simp only[Bool.and_eq_true,beq_iff_eq,decide_eq_true_eq]at hn;have:=(List.getElem?_eq_some_iff.1 hn.2).1;have h3:(notP s).length=3:=rfl;omega
     . cases h
   . cases h
     have h1:=y6C s.size s 0;have h2:=(y6t s.size s 0 zD).2.1;rw[zH];split<;>simp<;>omega
theorem yFD(W:World)(hG:GW W):yDO 247 #[] #[] lrcS (fun _ w=>Below W.heap.size W w) W.heap.size (fun _=>False):=by
 intro st s w hW hB hs;rw[yBA];have k:=yA6 s w (hG.bel hW) hs (fun w' hb=>yFH s w' ((hG.bel hW).bel hb) hs);unfold LP at k;refine k.mono fun e w' ⟨⟨x,he,hr⟩,hb⟩=>⟨.of hb,?_⟩
 cases hc:lrcS () s with
 | none=>rw[hc]at he;exact .inl ⟨rfl,x,he⟩
 | some p=>rw[hc]at he hr;exact .inr ⟨(),p.2,x,rfl,hW.trans (hb.mono hB),he,hr rfl⟩
theorem yCk(b:ByteArray)(w:World)(hG:GW w)(hs:b.size<=1000000):Calls prog 161 #[.string b] w (ParsP (lrcM b) w):=by
 obtain⟨R,hR⟩:∃R,R=lrcM b:=⟨_,rfl⟩;rw[<-hR];obtain⟨W,hW⟩:∃W,W=w.alloc (.cells #[.int .i64 0,.int .i64 0] 40):=⟨_,rfl⟩;have H8:Below w.heap.size w W:=by rw[hW];exact bal z8 _
 have H9:W.heap.size=w.heap.size+1:=by rw[hW,Y4]
 have lf:=Live.fresh w #[.int .i64 0,.int .i64 0] 40
 rw[<-hW]at lf;have m0:=lf 0 _ rfl;have m1:=lf 1 _ rfl;have kw:Calls prog 240 #[.string b,.func (.func 247) #[] #[]] W (ParsP R W):=by
  rw[hR];exact y84 247 (enters_of func247 (by kernel_rfl) rfl) lrcS b W hs (fun st s st' ps h=>yA5 st s st' ps h) (yFD W (hG.bel H8))
 have KW:=z7 kw;have H6:=z7 H8;have M0:=z7 m0;have M1:=z7 m1;have Ha:=z7 H9;clear kw H8 m0 m1 H9;clear hR lf
 go_enter func161,ntmps161
 go_wp2_with fail
 rw[<-hW];clear hW
 go_wp2_with (go_at_call 240;refine(KW.out).mono ?_;rintro e w1 ⟨H5,h⟩;obtain⟨q0,q0'⟩:=M0.out.keep H5;obtain⟨q1,q1'⟩:=M1.out.keep H5;rcases h with⟨a,h3,rfl⟩|⟨l,v,h3,rfl,H7⟩)
 . skip
   refine bodyPost_ret (v:=.tuple #[.slice none 0 0,.agg #[.int .i64 1,.int .i64 a]]) (by simp[results,results161,go_sem,q0,q1,q0',q1']) rfl ?_;exact⟨zh (H6.out.trans (H5.mono H6.out.size)) _ zA,.inl ⟨a,h3,rfl⟩⟩
 . skip
   refine bodyPost_ret (v:=.tuple #[v,.agg #[.int .i64 0,.int .i64 0]]) (by simp[results,results161,go_sem,q0,q1,q0',q1']) rfl ?_;exact⟨zh (H6.out.trans (H5.mono H6.out.size)) _ zA,.inr ⟨l,v,h3,rfl,y0r (by rw[<-Ha.out];exact H7)⟩⟩
def tTs(g r:Bool)(b:List BinF)(i:List ByF)(s:List SliF)(c:List SymF):Told:={ b:=(.geq,.sym 1,lI 29,lB g)::(.eql,.sym 1,lI 29,lB r)::b,i:=i,s:=s,l:=[(0,.sym 1)],c:=c }
def sTs:List SliF:=[(.sym 0,none,some (lI 29),.sym 2)]
def cTs(q:Bool):List SymF:=[(164,[.a (.sym 2),.a (lS timL)],one1 (lB q))]
noncomputable abbrev yJE(T:Told):Option V2:=symEv T 366 [.a (.sym 0)]
theorem rTs0:yJE (tTs false false [] [] [] [])=some (one1 (lB false)):=by kernel_rfl
theorem rTs1(q:Bool):yJE (tTs true true [] [] sTs (cTs q))=some (one1 (lB q)):=by cases q<;>kernel_rfl
theorem rTs2(q t:Bool):yJE (tTs true false [(.eql,.sym 3,u8 32,lB t)] [(.sym 0,lI 29,.sym 3)] sTs (cTs q))=some (one1 (lB (q&&t))):=by cases q<;>cases t<;>kernel_rfl
theorem yCF(s:ByteArray)(w:World)(hG:GW w)(hs:s.size<=1000000):Calls prog 366 #[.string s] w fun e w'=>e=.returned (.bool (timesL (bl s)))/\Below w.heap.size w w':=by
 have hL:=zJ s
 letI:=sgL [.string s,.int .i64 s.size,.string (s.extract 0 29),.int .u8 (byN (bl s) 29)] ⟨zU _,zV _ _,zU _,zV _ _,trivial⟩
 have hl:AllP LenOk [((0:Nat),At.sym 1)]:=⟨⟨s,rfl,fun _=>rfl⟩,trivial⟩;unfold timesL;rw[hL];by_cases h:29<=s.size
 . rw[decide_eq_true h,Bool.true_and]
   have e1:bl (s.extract 0 29)=(bl s).take 29:=by rw[y1N];rfl
   have H5:AllP y5u sTs:=⟨⟨s,0,29,fun _=>rfl,rfl,⟨.i64,fun _=>rfl⟩,by omega,h,fun _=>rfl⟩,trivial⟩;have kl:COk w (164,[.a (.sym 2),.a (lS timL)],one1 (lB (zW ((bl s).take 29) timL))):=
    ⟨[.string (s.extract 0 29),.string ⟨⟨timL⟩⟩],_,fun _=>rfl,fun _=>rfl,fun w' _=>by rw[<-e1];exact y0v (s.extract 0 29) ⟨⟨timL⟩⟩ w' (by rw[zG];omega) (by decide)⟩
   by_cases h2:s.size=29
   . rw[decide_eq_true h2,Bool.true_or,Bool.and_true]
     exact y0W (vals:=[.string s]) hG (T:=tTs true true [] [] sTs (cTs _)) ⟨⟨y2C (a:=s.size) (c:=29) (k:=.i64) (fun _=>rfl) (fun _=>rfl) (by simp;omega),y0S (a:=s.size) (c:=29) (k:=.i64) (fun _=>rfl) (fun _=>rfl) (by simp;omega),trivial⟩,trivial,H5,hl,⟨kl,trivial⟩,trivial,trivial⟩ rfl (rTs1 _) (fun _=>rfl)
   . rw[decide_eq_false h2,Bool.false_or]
     obtain⟨x,hx⟩:=zM (bl s) 29 (by rw[hL];omega);have H6:∀c:UInt8,((c.toNat:Int)==((32:Nat):Int))=(some c==some (32:UInt8)):=y07 (by decide +kernel);exact y0W (vals:=[.string s]) hG (T:=tTs true false [(.eql,.sym 3,u8 32,lB ((bl s)[29]?==some 32))] [(.sym 0,lI 29,.sym 3)] sTs (cTs _)) ⟨⟨y2C (a:=s.size) (c:=29) (k:=.i64) (fun _=>rfl) (fun _=>rfl) (by simp;omega),y0S (a:=s.size) (c:=29) (k:=.i64) (fun _=>rfl) (fun _=>rfl) (by simp;omega),y0S (a:=(byN (bl s) 29:Int)) (c:=((32:Nat):Int)) (k:=.u8) (fun _=>rfl) (fun _=>rfl) (by unfold byN;rw[hx];exact H6 x),trivial⟩,
      ⟨⟨s,29,.i64,fun _=>rfl,fun _=>rfl,by omega,fun _=>by rw[<-y9C s 29 (by omega)];rfl⟩,trivial⟩,H5,hl,⟨kl,trivial⟩,trivial,trivial⟩ rfl (rTs2 _ _) (fun _=>rfl)
 . rw[decide_eq_false h,Bool.false_and]
   exact y0W (vals:=[.string s]) hG (T:=tTs false false [] [] [] []) ⟨⟨y2C (a:=s.size) (c:=29) (k:=.i64) (fun _=>rfl) (fun _=>rfl) (by simp;omega),y0S (a:=s.size) (c:=29) (k:=.i64) (fun _=>rfl) (fun _=>rfl) (by simp;omega),trivial⟩,trivial,trivial,hl,trivial,trivial,trivial⟩ rfl rTs0 (fun _=>rfl)
theorem al0{w:World}{cs:Array Value}{e n:Nat}{u:Value}(hn:n=w.heap.size)(h:cs[0]?=some u):(w.alloc (.cells cs e)).cell? ⟨n,0,none⟩=some u:=by
 subst hn;exact(Live.fresh w cs e 0 u h).1
theorem y67{w:World}{x:Obj}{n:Nat}(hn:n=w.heap.size):n<(w.alloc x).heap.size:=by rw[Y4,hn];exact Nat.lt_succ_self _
def SrtI(w0:World)(b:Nat)(st:Nat)(w:World):Prop:=Below w0.heap.size w0 w/\w.heap[b]?=some (.cells #[.int .i64 (st:Int)] 3 (0,0))/\∃z:Int,w.heap[b+1]?=some (.cells #[.int .i64 z] 3 (0,0))
def SrtS(b:Nat)(k:Nat):Prop:=k=b\/k=b+1
theorem SrtI.bel{w0:World}{b st:Nat}{w w':World}(h:SrtI w0 b st w)(hb:Below w.heap.size w w'):SrtI w0 b st w':=by
 obtain⟨h1,h2,z,h3⟩:=h;exact⟨h1.trans (hb.mono h1.size),(hb.block _ (lt_of_block h2)).trans h2,z,(hb.block _ (lt_of_block h3)).trans h3⟩
theorem SrtI.set{w0:World}{b st:Nat}{w:World}(h:SrtI w0 b st w)(hb:w0.heap.size<=b)(st':Nat):SrtI w0 b st' (w.setCell ⟨b,0,none⟩ (.int .i64 (st':Int))):=by
 obtain⟨h1,h2,z,h3⟩:=h;exact⟨h1.setCell hb _,one_setCell h2,z,by rw[Below.heap_setCell _ _ _ _ (by show b+1≠b;omega)];exact h3⟩
theorem SrtI.add{w0:World}{b st:Nat}{w:World}(h:SrtI w0 b st w)(hb:w0.heap.size<=b)(x:Int):SrtI w0 b st (w.setCell ⟨b+1,0,none⟩ (.int .i64 x)):=by
 obtain⟨h1,h2,z,h3⟩:=h;exact⟨h1.setCell (by show w0.heap.size<=b+1;omega) _,by rw[Below.heap_setCell _ _ _ _ (by show b≠b+1;omega)];exact h2,x,one_setCell h3⟩
theorem y79{b B k:Nat}{a w:World}(h:But B (SrtS b) a w)(hk:SrtS b k)(u:Value):But B (SrtS b) a (w.setCell ⟨k,0,none⟩ u):=
 h.trans ⟨rfl,rfl,rfl,by rw[World.size_setCell];exact zA,fun j _ hn=>Below.heap_setCell _ _ _ _ (by rintro rfl;exact hn hk)⟩
theorem yDx(w0:World)(hG:GW w0)(b B:Nat)(H8:w0.heap.size<=b)(Hl:b+1<B):yDO 365 #[] #[.pointer (some ⟨b,0,none⟩),.pointer (some ⟨b+1,0,none⟩)] srtS (SrtI w0 b) B (SrtS b):=by
 intro st s w hI hB hs;rw[show(#[]:Array Value).push (.string s)++#[.pointer (some ⟨b,0,none⟩),.pointer (some ⟨b+1,0,none⟩)]=#[.string s,.pointer (some ⟨b,0,none⟩),.pointer (some ⟨b+1,0,none⟩)] from rfl];have HI:=z7 hI;obtain⟨He,Hd,z,Hc⟩:=hI;have Hf:=hG.bel He;obtain⟨c0,c0'⟩:=zL Hd 0 _ rfl;obtain⟨c1,c1'⟩:=zL Hc 0 _ rfl;obtain⟨V,hV⟩:∃V,V=srtS st s:=⟨_,rfl⟩;rw[<-hV];unfold srtS at hV;have Hm:=z7 He;have H9:=z7 Hd;have Hg:=z7 Hc;have HG:=z7 Hf;clear He Hd Hc Hf hG;by_cases h1:st=1
 . subst h1
   rw[if_pos rfl]at hV;have kt:=fun w' (h:Below w.heap.size w w')=>yCF s w' (HG.out.bel h) hs
   cases ht:timesL (bl s)with
   | false=>
    rw[ht]at hV kt;rw[if_neg (by decide)]at hV;have KT:=z7 kt;have HV:=z7 hV;clear hV kt ht
    go_enter func365,ntmps365
    go_wp2_with (go_at_call 366;refine(KT.out _ z8).mono ?_;rintro e w1 ⟨rfl,H5⟩)
    go_ret2
    exact⟨.of H5,.inl ⟨HV.out,_,rfl⟩⟩
   | true=>
    rw[ht]at hV kt;rw[if_pos rfl]at hV;have KT:=z7 kt;have HV:=z7 hV;clear hV kt ht
    go_enter func365,ntmps365
    go_wp2_with (first
     | (go_at_call 366;refine(KT.out _ z8).mono ?_;rintro e w1 ⟨rfl,H5⟩;have bk:=(H5.block _ (Array.getElem?_eq_some_iff.1 H9.out).1).trans H9.out;obtain⟨d0,d0'⟩:=zL bk 0 _ rfl)
     | (go_at_call 242;refine(zi w1.heap.size 0 1 s _ (y67 (by rw[World.size_setCell])) zA (al0 (by rw[World.size_setCell]) rfl) hs).mono ?_;rintro e w2 ⟨rfl,H6⟩))
    go_ret2
    have Hb:=((HI.out.bel H5).set H8 2).bel (((z8).alloc zA (.cells #[.string s] 9)).trans (H6.mono (by rw[Y4];exact Nat.le_succ _)));have hz:w.heap.size<=(w1.setCell ⟨b,0,none⟩ (.int .i64 2)).heap.size:=by rw[World.size_setCell];exact H5.size
    have H7:=((y79 (.of H5) (.inl rfl) (.int .i64 2)).al hz (.cells #[.string s] 9)).trans (.of (H6.mono (by rw[Y4];exact Nat.le_succ_of_le hz)));have Ha:w.heap.size<=w2.heap.size:=H7.size;exact⟨H7.al Ha _,.inr ⟨2,[mkP s],_,HV.out,Hb.bel (bal z8 _),rfl,zw w2 #[.bool true,.string mkN,.string s] _ 1⟩⟩
 . rw[if_neg h1]at hV
   have Hi:((st:Int)==1)=false:=by rw[Y2];omega
   by_cases h0:s.size=0
   . rw[if_pos h0]at hV
     have hE:s.toList.isEmpty=true:=by rw[ByteArray.toList_eq,List.isEmpty_iff];exact List.eq_nil_of_length_eq_zero (by rw[show s.data.toList.length=s.size from zJ s];exact h0)
     have HV:=z7 hV;clear hV h0 h1
     go_enter func365,ntmps365
     go_wp2_with fail
     go_ret2
     exact⟨y79 (.of z8) (.inl rfl) _,.inr ⟨0,[],_,HV.out,HI.out.set H8 0,rfl,.inl ⟨rfl,rfl,rfl⟩⟩⟩
   . rw[if_neg h0]at hV
     have hE:s.toList.isEmpty=false:=by rw[<-Bool.not_eq_true,ByteArray.toList_eq,List.isEmpty_iff];exact fun h=>h0 (by rw[<-show s.data.toList.length=s.size from zJ s,h];rfl)
     by_cases h2:st=2
     . subst h2
       rw[if_pos rfl]at hV;have kt:=fun w' h=>y0t teN s w' (HG.out.bel (w':=w') h)
       have KT:=z7 kt;have HV:=z7 hV;clear hV h0 kt h1
       go_enter func365,ntmps365
       go_wp2_with (go_at_call 243;refine(KT.out _ z8).mono ?_;rintro e w2 ⟨rfl,H6⟩)
       go_ret2
       exact⟨(But.of H6).al H6.size _,.inr ⟨2,[txP teN s],_,HV.out,(HI.out.bel H6).bel (bal z8 _),rfl,zw w2 #[.bool false,.string teN,.string s] _ 1⟩⟩
     . rw[if_neg h2]at hV
       have Hh:((st:Int)==2)=false:=by rw[Y2];omega
       have kd:=fun w'=>yEY s w' hs
       cases hd:dgsL (bl s)with
       | false=>
        rw[hd]at hV kd;rw[if_neg (by decide)]at hV;have KD:=z7 kd;have HV:=z7 hV;clear hV h0 kd h1 h2 hd
        go_enter func365,ntmps365
        go_wp2_with (go_at_call 163;refine(KD.out _).mono ?_;rintro e w1 ⟨rfl,H5⟩)
        go_ret2
        exact⟨.of H5,.inl ⟨HV.out,_,rfl⟩⟩
       | true=>
        rw[hd]at hV kd;rw[if_pos rfl]at hV;have KD:=z7 kd;have HV:=z7 hV;have Hk:¬b=b+1:=by omega
        have Hj:¬b+1=b:=by omega
        clear hV h0 kd h1 h2 hd
        go_enter func365,ntmps365
        go_wp2_with (first
         | (go_at_call 163;refine(KD.out _).mono ?_;rintro e w1 ⟨rfl,H5⟩;have bk:=(H5.block _ (lt_of_block H9.out)).trans H9.out;obtain⟨d0,d0'⟩:=zL bk 0 _ rfl;have bk1:=(H5.block _ (lt_of_block Hg.out)).trans Hg.out;obtain⟨d1,d1'⟩:=zL bk1 0 _ rfl)
         | (go_at_call 242;refine(zi w1.heap.size 0 1 s _ (y67 (by rw[World.size_setCell,World.size_setCell])) zA (al0 (by rw[World.size_setCell,World.size_setCell]) rfl) hs).mono ?_;rintro e w2 ⟨rfl,H6⟩))
        go_ret2
        have hz:w.heap.size<=((w1.setCell ⟨b,0,none⟩ (.int .i64 1)).setCell ⟨b+1,0,none⟩ (.int .i64 (wrap64 (z+1)))).heap.size:=by rw[World.size_setCell,World.size_setCell];exact H5.size
        have Hb:=(((HI.out.bel H5).set H8 1).add H8 (wrap64 (z+1))).bel (((z8).alloc zA (.cells #[.string s] 9)).trans (H6.mono (by rw[Y4];exact Nat.le_succ _)));have H7:=((y79 (y79 (.of H5) (.inl rfl) (.int .i64 1)) (.inr rfl) (.int .i64 (wrap64 (z+1)))).al hz (.cells #[.string s] 9)).trans (.of (H6.mono (by rw[Y4];exact Nat.le_succ_of_le hz)));have Ha:w.heap.size<=w2.heap.size:=H7.size;exact⟨H7.al Ha _,.inr ⟨1,[mkP s],_,HV.out,Hb.bel (bal z8 _),rfl,zw w2 #[.bool true,.string mkN,.string s] _ 1⟩⟩
def srtM(b:ByteArray):List Pc ⊕ Nat:=match walkS srtS b 0 [] (lnF (bl b) 0)with
 | .inl (st,l)=>if st=1 then .inr b.size else .inl l
 | .inr a=>.inr a
theorem y4f(z a:Int)(w:World):Calls prog 11 #[.agg #[.int .i64 z,.int .i64 a]] w fun e w'=>e=.returned (.bool (z != 0))/\Below w.heap.size w w':=by
 go_enter func11,ntmps11
 go_wp2_with fail
 go_ret
 exact⟨rfl,bal z8 _⟩
def capV(b:Nat):Array Value:=#[.pointer (some ⟨b,0,none⟩),.pointer (some ⟨b+1,0,none⟩)]
theorem yDI(w:World):Calls prog 311 #[] w fun e w'=>e=.returned (.tuple #[.func (.func 365) #[] (capV w.heap.size),.func (.func 367) #[] (capV w.heap.size)])/\Below w.heap.size w w' /\
 w'.heap[w.heap.size]?=some (.cells #[.int .i64 ((0:Nat):Int)] 3 (0,0))/\w'.heap[w.heap.size+1]?=some (.cells #[.int .i64 0] 3 (0,0))/\w'.heap.size=w.heap.size+2:=by
 have H5:∀(fn:Fn) (first cap:Array Value) (w:World),(Instr.makeFunc fn first cap).run prog w=.ok (.func fn first cap) w:=fun _ _ _ _=>rfl
 go_enter func311,ntmps311
 go_wp2_with fail
 go_ret2
 refine⟨rfl,bal (bal z8 _) _,(Below.heap_alloc _ _ _ (by rw[Y4];exact Nat.lt_succ_self _)).trans (heap_alloc_new w _),?_,by rw[Y4,Y4]⟩;have:=heap_alloc_new (w.alloc (.cells #[.int .i64 0] 3)) (.cells #[.int .i64 0] 3)
 rwa [Y4]at this
theorem yDr(b:Nat)(x y:Int)(w:World)(h1:w.heap[b]?=some (.cells #[.int .i64 x] 3 (0,0)))(h2:w.heap[b+1]?=some (.cells #[.int .i64 y] 3 (0,0))):Calls prog 367 (capV b) w fun e w'=>e=.returned (.tuple #[.int .i64 x,.int .i64 y])/\Below w.heap.size w w':=by
 obtain⟨c0,c0'⟩:=zL h1 0 _ rfl;obtain⟨c1,c1'⟩:=zL h2 0 _ rfl;unfold capV;clear h1 h2
 go_enter func367,ntmps367
 go_wp2_with fail
 go_region
 all_goals
  go_wp2_with fail
  go_ret2
  exact⟨rfl,by first|exact z8|exact(z8).drew⟩
theorem SrtI.belB{w0:World}{b st B:Nat}{w w':World}(h:SrtI w0 b st w)(hb:Below B w w')(hB:b+1<B)(h0:w0.heap.size<=b):SrtI w0 b st w':=by
 obtain⟨h1,h2,z,h3⟩:=h;exact⟨h1.trans (hb.mono (by omega)),(hb.block _ (by omega)).trans h2,z,(hb.block _ hB).trans h3⟩
theorem yDz(st:Nat)(s:ByteArray)(st':Nat)(ps:List Pc)(h:srtS st s=some (st',ps)):ps.length<=2*s.size:=by
 unfold srtS at h;have hz:∀l,(timesL l=true\/dgsL l=true)->l=bl s->1<=s.size:=by
  rintro l hl rfl;rw[<-zJ];cases hb:bl s with
  | nil=>rw[hb]at hl;rcases hl with h|h<;>exact absurd h (by decide)
  | cons x r=>simp
 split at h
 . split at h<;>cases h
   rename_i ht;have:=hz _ (.inl ht) rfl;simp;omega
 . split at h
   . cases h;simp
   . split at h
     . cases h;simp;omega
     . split at h<;>cases h
       simp;omega
def ReadP(r:List Pc ⊕ Nat)(w:World)(e:Ending)(w':World):Prop:=
 Below w.heap.size w w'/\((∃a:Nat,r=.inr a/\e=.returned (.tuple #[.slice none 0 0,.int .i64 0,.agg #[.int .i64 1,.int .i64 a]])) \/
  ∃l v z,r=.inl l/\e=.returned (.tuple #[v,.int .i64 z,.agg #[.int .i64 0,.int .i64 0]])/\w'.ownsRow w.heap.size 173 3 v l.length (pcC l))
theorem yE1(s:ByteArray)(w:World)(hG:GW w)(hs:s.size<=1000000):Calls prog 244 #[.string s] w (ReadP (srtM s) w):=by
 obtain⟨R,hR⟩:∃R,R=srtM s:=⟨_,rfl⟩;obtain⟨R0,He⟩:∃R0,R0=walkS srtS s 0 [] (lnF (bl s) 0):=⟨_,rfl⟩;rw[<-hR];unfold srtM at hR;rw[<-He]at hR;obtain⟨W,hW⟩:∃W,W=w.alloc (.cells #[.int .i64 0,.int .i64 0] 40):=⟨_,rfl⟩;have Hc:Below w.heap.size w W:=by rw[hW];exact bal z8 _
 have Hd:W.heap.size=w.heap.size+1:=by rw[hW,Y4]
 have lf:=Live.fresh w #[.int .i64 0,.int .i64 0] 40
 rw[<-hW]at lf;have m0:=lf 0 _ rfl;have m1:=lf 1 _ rfl;have kb:=yDI W;have kw:∀w1,Below W.heap.size W w1->SrtI w W.heap.size 0 w1->w1.heap.size=W.heap.size+2->Calls prog 240 #[.string s,.func (.func 365) #[] (capV W.heap.size)] w1 (WalkP R0 (SrtI w W.heap.size) w1 (SrtS W.heap.size)):=fun w1 h1 h2 h3=>by
  rw[He];exact y6o 365 #[] (capV W.heap.size) (enters_of func365 (by kernel_rfl) rfl) srtS (SrtI w W.heap.size) (SrtS W.heap.size) s 0 w1 hs yDz (fun st a b ha hb _=>ha.belB hb (by omega) (by omega)) (fun k hk=>by rcases hk with h|h<;>omega) (yDx w hG W.heap.size w1.heap.size (by omega) (by omega)) h2
 clear lf;cases hc:R0 with
 | inr a=>
  rw[hc]at kw hR;simp only at hR;subst hR;have kw2:∀w1,Below W.heap.size W w1->SrtI w W.heap.size 0 w1->w1.heap.size=W.heap.size+2->Calls prog 240 #[.string s,.func (.func 365) #[] (capV W.heap.size)] w1 fun e w'=>But w1.heap.size (SrtS W.heap.size) w1 w'/\e=.returned (.tuple #[.slice none 0 0,.agg #[.int .i64 1,.int .i64 a]]):=fun w1 h1 h2 h3=>
   (kw w1 h1 h2 h3).mono fun e w' ⟨h4,h5⟩=>⟨h4,by
     rcases h5 with⟨a',h,he⟩|⟨_,_,_,h,_⟩
     . cases h;exact he
     . cases h⟩
  have ka:((1:Int) != 0)=true:=by decide
  have KF:=z7 (fun w=>y4f 1 (a:Int) w);have KW:=z7 kw2;have KB:=z7 kb;have H8:=z7 Hc;have M0:=z7 m0;have M1:=z7 m1;have H5:=z7 Hd;clear kw2 kb Hc m0 m1 Hd;clear He hc kw
  go_enter func244,ntmps244
  go_wp2_with fail
  rw[<-hW];clear hW
  go_wp2_with (first
   | (go_at_call 311;refine(KB.out).mono ?_;rintro e w1 ⟨rfl,H7,g1,g2,g3⟩)
   | (go_at_call 240;refine(KW.out _ H7 ⟨H8.out.trans (H7.mono H8.out.size),g1,0,g2⟩ g3).mono ?_;rintro e w2 ⟨H9,rfl⟩)
   | (go_at_call 11;refine(KF.out _).mono ?_;rintro e w3 ⟨rfl,H6⟩))
  have bw2:Below w.heap.size w1 w2:=H9.below (by rw[g3,H5.out];omega) (fun k hk=>by rcases hk with h|h<;>(have:=H5.out;omega));have lv:∀i,Live W w.heap.size i (.int .i64 0)->Live w2 w.heap.size i (.int .i64 0):=fun i hl=>(hl.keep H7).but H9 (fun h=>by rcases h with h|h<;>(have:=H5.out;omega))
  have hz:w.heap.size<w2.heap.size:=Nat.lt_of_lt_of_le (by rw[g3,H5.out];omega) H9.size;obtain⟨q0,q0'⟩:=((lv 0 M0.out).alloc (.cells #[.int .i64 1,.int .i64 (a:Int)] 40)).keep H6;obtain⟨q1,q1'⟩:=((lv 1 M1.out).alloc (.cells #[.int .i64 1,.int .i64 (a:Int)] 40)).keep H6;obtain⟨p0,p0'⟩:=(Live.fresh w2 #[.int .i64 1,.int .i64 (a:Int)] 40 0 _ rfl).keep H6;obtain⟨p1,p1'⟩:=(Live.fresh w2 #[.int .i64 1,.int .i64 (a:Int)] 40 1 _ rfl).keep H6;have Ha:Below w.heap.size w w3:=(((H8.out.trans (H7.mono H8.out.size)).trans bw2).alloc (Nat.le_of_lt hz) _).trans (H6.mono (by rw[Y4];omega))
  go_region
  all_goals
   go_wp2_with fail
   refine bodyPost_ret (v:=.tuple #[.slice none 0 0,.int .i64 0,.agg #[.int .i64 1,.int .i64 (a:Int)]]) (by simp[results,results244,go_sem,q0,q1,q0',q1']) rfl ?_
   first
   | exact⟨(zh Ha _ zA).drew,.inl ⟨a,rfl,rfl⟩⟩
   | exact⟨zh Ha _ zA,.inl ⟨a,rfl,rfl⟩⟩
   | exact⟨zh Ha.drew _ zA,.inl ⟨a,rfl,rfl⟩⟩
 | inl p=>
  obtain⟨st,l⟩:=p;rw[hc]at kw hR;simp only at hR;have kw2:∀w1,Below W.heap.size W w1->SrtI w W.heap.size 0 w1->w1.heap.size=W.heap.size+2->Calls prog 240 #[.string s,.func (.func 365) #[] (capV W.heap.size)] w1 fun e w'=>But w1.heap.size (SrtS W.heap.size) w1 w'/\SrtI w W.heap.size st w'/\∃v,e=.returned (.tuple #[v,.agg #[.int .i64 0,.int .i64 0]])/\w'.ownsRow w1.heap.size 173 3 v l.length (pcC l):=fun w1 h1 h2 h3=>
   (kw w1 h1 h2 h3).mono fun e w' ⟨h4,h5⟩=>⟨h4,by
     rcases h5 with⟨a',h,he⟩|⟨_,_,v,h,h6,h7,h8⟩
     . cases h
     . cases h;exact⟨h6,v,h7,h8⟩⟩
  have ka:((0:Int) != 0)=false:=by decide
  have KF:=z7 (fun w=>y4f 0 0 w);have KS:=z7 (fun x y w h1 h2=>yDr W.heap.size x y w h1 h2);have KW:=z7 kw2;have KB:=z7 kb;have H8:=z7 Hc;have M0:=z7 m0;have M1:=z7 m1;have H5:=z7 Hd;have HR:=z7 hR;clear kw2 kb Hc m0 m1 Hd hR;clear He hc kw;have Hi:(st=1/\((st:Int)==1)=true)\/(¬st=1/\((st:Int)==1)=false):=by
   by_cases h:st=1
   . exact .inl ⟨h,by rw[h];rfl⟩
   . exact .inr ⟨h,by rw[Y2];omega⟩
  rcases Hi with⟨h1,Hh⟩|⟨h1,Hh⟩
  all_goals
   have H1:=z7 h1;clear h1
   go_enter func244,ntmps244
   go_wp2_with fail
   rw[<-hW];clear hW
   go_wp2_with (first
    | (go_at_call 311;refine(KB.out).mono ?_;rintro e w1 ⟨rfl,H7,g1,g2,g3⟩)
    | (go_at_call 240;refine(KW.out _ H7 ⟨H8.out.trans (H7.mono H8.out.size),g1,0,g2⟩ g3).mono ?_;rintro e w2 ⟨H9,Hj,v,rfl,Hf⟩)
    | (go_at_call 11;refine(KF.out _).mono ?_;rintro e w3 ⟨rfl,H6⟩;obtain⟨_,i1,z,i2⟩:=(Hj.bel (bal z8 (.cells #[.int .i64 0,.int .i64 0] 40))).bel H6)
    | (go_at_call 367;refine(KS.out _ _ _ i1 i2).mono ?_;rintro e w4 ⟨rfl,Hg⟩;(have hq:∀i,Live W w.heap.size i (.int .i64 0)->Live w4 w.heap.size i (.int .i64 0):=fun i hl=>((((hl.keep H7).but H9 (fun h=>by rcases h with h|h<;>(have:=H5.out;omega))).alloc _).keep H6).keep Hg);obtain⟨q0,q0'⟩:=hq 0 M0.out;obtain⟨q1,q1'⟩:=hq 1 M1.out))
  all_goals
   have bw2:Below w.heap.size w1 w2:=H9.below (by rw[g3,H5.out];omega) (fun k hk=>by rcases hk with h|h<;>(have:=H5.out;omega));have hz:w.heap.size<w2.heap.size:=Nat.lt_of_lt_of_le (by rw[g3,H5.out];omega) H9.size;have Hb:Below w2.heap.size w2 w4:=bt (bt (bal z8 (.cells #[.int .i64 0,.int .i64 0] 40)) H6) Hg;have Ha:Below w.heap.size w w4:=((H8.out.trans (H7.mono H8.out.size)).trans bw2).trans (Hb.mono (Nat.le_of_lt hz))
  . skip
    refine bodyPost_ret (v:=.tuple #[.slice none 0 0,.int .i64 0,.agg #[.int .i64 1,.int .i64 (s.size:Int)]]) (by simp[results,results244,go_sem,q0,q1,q0',q1']) rfl ?_;exact⟨zh Ha _ zA,.inl ⟨s.size,by rw[HR.out,if_pos H1.out],rfl⟩⟩
  . skip
    refine bodyPost_ret (v:=.tuple #[v,.int .i64 z,.agg #[.int .i64 0,.int .i64 0]]) (by simp[results,results244,go_sem,q0,q1,q0',q1']) rfl ?_;exact⟨zh Ha _ zA,.inr ⟨l,v,z,by rw[HR.out,if_neg H1.out],rfl,y0r (zd (zK Hf Hb) (by rw[g3,H5.out];omega))⟩⟩
theorem yCH(s:ByteArray)(w:World)(hG:GW w)(hs:s.size<=1000000):Calls prog 158 #[.string s] w (ParsP (srtM s) w):=by
 obtain⟨R,hR⟩:∃R,R=srtM s:=⟨_,rfl⟩;rw[<-hR];obtain⟨W,hW⟩:∃W,W=w.alloc (.cells #[.int .i64 0,.int .i64 0] 40):=⟨_,rfl⟩;have H9:Below w.heap.size w W:=by rw[hW];exact bal z8 _
 have Ha:W.heap.size=w.heap.size+1:=by rw[hW,Y4]
 have lf:=Live.fresh w #[.int .i64 0,.int .i64 0] 40
 rw[<-hW]at lf;have m0:=lf 0 _ rfl;have m1:=lf 1 _ rfl;have kr:=yE1 s W (hG.bel H9) hs;rw[<-hR]at kr;have Hb:(∃a:Nat,R=.inr a/\Calls prog 244 #[.string s] W fun e w'=>Below W.heap.size W w'/\e=.returned (.tuple #[.slice none 0 0,.int .i64 0,.agg #[.int .i64 1,.int .i64 a]])) \/
  ∃l,R=.inl l/\Calls prog 244 #[.string s] W fun e w'=>Below W.heap.size W w'/\∃v z,e=.returned (.tuple #[v,.int .i64 z,.agg #[.int .i64 0,.int .i64 0]])/\w'.ownsRow W.heap.size 173 3 v l.length (pcC l):=by
  cases hc:R with
  | inr a=>exact .inl ⟨a,rfl,kr.mono fun e w' ⟨h1,h2⟩=>⟨h1,by
   rcases h2 with⟨a',h,he⟩|⟨_,_,_,h,_⟩
   . rw[hc]at h;cases h;exact he
   . rw[hc]at h;cases h⟩⟩
  | inl l=>exact .inr ⟨l,rfl,kr.mono fun e w' ⟨h1,h2⟩=>⟨h1,by
   rcases h2 with⟨a',h,he⟩|⟨_,v,z,h,h3,h4⟩
   . rw[hc]at h;cases h
   . rw[hc]at h;cases h;exact⟨v,z,h3,h4⟩⟩⟩
 have H7:=z7 H9;have M0:=z7 m0;have M1:=z7 m1;have Hc:=z7 Ha;clear H9 m0 m1 Ha;clear hR lf kr;rcases Hb with⟨a,rfl,kr⟩|⟨l,rfl,kr⟩
 . have KR:=z7 kr
   clear kr
   go_enter func158,ntmps158
   go_wp2_with fail
   rw[<-hW];clear hW
   go_wp2_with (go_at_call 244;refine(KR.out).mono ?_;rintro e w1 ⟨H5,rfl⟩)
   obtain⟨q0,q0'⟩:=(M0.out.keep H5).alloc (.cells #[.int .i64 1,.int .i64 (a:Int)] 40);obtain⟨q1,q1'⟩:=(M1.out.keep H5).alloc (.cells #[.int .i64 1,.int .i64 (a:Int)] 40);obtain⟨p0,p0'⟩:=Live.fresh w1 #[.int .i64 1,.int .i64 (a:Int)] 40 0 _ rfl;obtain⟨p1,p1'⟩:=Live.fresh w1 #[.int .i64 1,.int .i64 (a:Int)] 40 1 _ rfl;have H6:Below w.heap.size w (w1.alloc (.cells #[.int .i64 1,.int .i64 (a:Int)] 40)):=(H7.out.trans (H5.mono H7.out.size)).alloc (zE H7.out.size H5.size) _
   go_region
   all_goals
    go_wp2_with fail
    refine bodyPost_ret (v:=.tuple #[.slice none 0 0,.agg #[.int .i64 1,.int .i64 (a:Int)]]) (by simp[results,results158,go_sem,q0,q1,q0',q1']) rfl ?_
    first
    | exact⟨(zh H6 _ zA).drew,.inl ⟨a,rfl,rfl⟩⟩
    | exact⟨zh H6 _ zA,.inl ⟨a,rfl,rfl⟩⟩
    | exact⟨zh H6.drew _ zA,.inl ⟨a,rfl,rfl⟩⟩
 . have KR:=z7 kr
   clear kr
   go_enter func158,ntmps158
   go_wp2_with fail
   rw[<-hW];clear hW
   go_wp2_with (go_at_call 244;refine(KR.out).mono ?_;rintro e w1 ⟨H5,v,z,rfl,H8⟩)
   obtain⟨q0,q0'⟩:=(M0.out.keep H5).alloc (.cells #[.int .i64 0,.int .i64 0] 40);obtain⟨q1,q1'⟩:=(M1.out.keep H5).alloc (.cells #[.int .i64 0,.int .i64 0] 40);obtain⟨p0,p0'⟩:=Live.fresh w1 #[.int .i64 0,.int .i64 0] 40 0 _ rfl;obtain⟨p1,p1'⟩:=Live.fresh w1 #[.int .i64 0,.int .i64 0] 40 1 _ rfl;have H6:Below w.heap.size w (w1.alloc (.cells #[.int .i64 0,.int .i64 0] 40)):=(H7.out.trans (H5.mono H7.out.size)).alloc (zE H7.out.size H5.size) _;have ho:(w1.alloc (.cells #[.int .i64 0,.int .i64 0] 40)).ownsRow (w.heap.size+1) 173 3 v l.length (pcC l):=by rw[<-Hc.out];exact zK H8 (bal z8 _)
   go_region
   all_goals
    go_wp2_with fail
    refine bodyPost_ret (v:=.tuple #[v,.agg #[.int .i64 0,.int .i64 0]]) (by simp[results,results158,go_sem,q0,q1,q0',q1']) rfl ?_
    first
    | exact⟨(zh H6 _ zA).drew,.inr ⟨l,v,rfl,rfl,zK (y0r ho) (z8).drew⟩⟩
    | exact⟨zh H6 _ zA,.inr ⟨l,v,rfl,rfl,y0r ho⟩⟩
    | exact⟨zh H6.drew _ zA,.inr ⟨l,v,rfl,rfl,y0r (zK ho (z8).drew)⟩⟩
def tSe(b:List BinF)(i:List ByF)(c:List SymF)(g:Bool):Told:={ b:=(.gtr,.sym 1,lI 2,lB g)::b,i:=i,l:=[(0,.sym 1)],c:=c }
noncomputable abbrev runSe(T:Told):Option V2:=symEv T 312 [.a (.sym 0)]
theorem rSe0:runSe (tSe [] [] [] false)=some (one1 (lB false)):=by kernel_rfl
theorem rSe1(p q:Bool):runSe (tSe [(.eql,.sym 2,u8 91,lB p),(.sub,.sym 1,lI 1,.sym 4),(.eql,.sym 3,.sym 4,lB q)] [(.sym 0,lI 0,.sym 2)] [(286,[.a (.sym 0),.a (u8 93)],one1 (.sym 3))] true)=some (one1 (lB (p&&q))):=by cases p<;>cases q<;>kernel_rfl
theorem yH0(s:ByteArray)(w:World)(hG:GW w)(hs:s.size<=1000000):Calls prog 312 #[.string s] w fun e w'=>e=.returned (.bool (secL (bl s)))/\Below w.heap.size w w':=by
 have hL:=zJ s
 letI:=sgL [.string s,.int .i64 s.size,.int .u8 (byN (bl s) 0),.int .i64 (Lib.indexByte (bl s) 93),.int .i64 ((s.size:Int)-1)] ⟨zU _,zV _ _,zV _ _,zV _ _,zV _ _,trivial⟩
 have hl:AllP LenOk [((0:Nat),At.sym 1)]:=⟨⟨s,rfl,fun _=>rfl⟩,trivial⟩;rw[<-sec_ix,hL];by_cases h:2<s.size
 . rw[decide_eq_true h,Bool.true_and]
   obtain⟨x,hx⟩:=zM (bl s) 0 (by rw[hL];omega);have H5:∀c:UInt8,((c.toNat:Int)==((91:Nat):Int))=(some c==some (91:UInt8)):=y07 (by decide +kernel);exact y0W (vals:=[.string s]) hG (T:=tSe [(.eql,.sym 2,u8 91,lB ((bl s).head?==some 91)),(.sub,.sym 1,lI 1,.sym 4),(.eql,.sym 3,.sym 4,lB (decide (Lib.indexByte (bl s) 93=(s.size:Int)-1)))] [(.sym 0,lI 0,.sym 2)] [(286,[.a (.sym 0),.a (u8 93)],one1 (.sym 3))] true)
    ⟨⟨y7x (a:=s.size) (c:=2) (k:=.i64) (fun _=>rfl) (fun _=>rfl) (by simp;omega),y0S (a:=(byN (bl s) 0:Int)) (c:=((91:Nat):Int)) (k:=.u8) (fun _=>rfl) (fun _=>rfl) (by unfold byN;rw[List.head?_eq_getElem?,hx];exact H5 x),y4k (a:=(s.size:Int)) (c:=1) (k:=.i64) (fun _=>rfl) (fun _=>rfl) (fun _=>rfl) (wi64 _ (by omega) (by omega)),y0S (a:=Lib.indexByte (bl s) 93) (c:=(s.size:Int)-1) (k:=.i64) (fun _=>rfl) (fun _=>rfl) (by rw[Bool.eq_iff_iff];simp),trivial⟩,
      ⟨⟨s,0,.i64,fun _=>rfl,fun _=>rfl,by omega,fun _=>by rw[<-y9C s 0 (by omega)];rfl⟩,trivial⟩,trivial,hl,⟨⟨[.string s,.int .u8 93],_,fun _=>rfl,fun _=>rfl,fun w' _=>(Tryz.strings_IndexByte s 93 w').mono fun e w'' q=>⟨q.1,by rw[q.2];exact z8⟩⟩,trivial⟩,trivial,trivial⟩ rfl (rSe1 _ _) (fun _=>rfl)
 . rw[decide_eq_false h,Bool.false_and,Bool.false_and]
   exact y0W (vals:=[.string s]) hG (T:=tSe [] [] [] false) ⟨⟨y7x (a:=s.size) (c:=2) (k:=.i64) (fun _=>rfl) (fun _=>rfl) (by simp;omega),trivial⟩,trivial,trivial,hl,trivial,trivial,trivial⟩ rfl rSe0 (fun _=>rfl)
theorem pre2(l:List UInt8)(n:Nat)(h:l[n]?=some 58):Lib.hasPrefix (l.drop n) [58,32]=decide (l[n+1]?=some 32):=by
 rw[y0h l n 58 h];cases h2:l[n+1]? with
 | none=>
  rw[List.drop_eq_nil_of_le (List.getElem?_eq_none_iff.1 h2)];rfl
 | some c=>
  rw[y0h l (n+1) c h2];show((58:UInt8)==58&&((32:UInt8)==c&&true))=_;by_cases h:c=32
  . subst h;rfl
  . have e:((32:UInt8)==c)=false:=by rw[Y2];exact fun e=>h e.symm
    rw[e,decide_eq_false (fun e=>h (zF e))];rfl
theorem yH2(s:ByteArray)(w:World)(hG:GW w)(hs:s.size<=1000000):Calls prog 313 #[.string s] w fun e w'=>e=.returned (.tuple #[.int .i64 (keN (bl s)),.bool (decide (keN (bl s)≠0))])/\Below w.heap.size w w':=by
 have HL:Hid ((bl s).length=s.size):=zJ s;obtain⟨k1,k2⟩:=keN_ix (bl s);have H8:=Lib.indexByte_ge (bl s) 58;have ki:∀w,Calls prog 286 #[.string s,.int .u8 58] w fun e w'=>e=.returned (.int .i64 (Lib.indexByte (bl s) 58))/\w'=w:=fun w=>Tryz.strings_IndexByte s 58 w
 obtain⟨V,hV⟩:∃V,V=keN (bl s):=⟨_,rfl⟩;rw[<-hV];rw[<-hV]at k1 k2;by_cases hm:Lib.indexByte (bl s) 58 = -1
 . have hv:=k2 hm
   subst hv;rw[hm]at ki;have KI:=z7 ki;clear k1 k2 H8 ki hm hV
   go_enter func313,ntmps313
   go_wp2_with (go_at_call 286;refine(KI.out _).mono ?_;rintro e w1 ⟨rfl,rfl⟩)
   go_ret2
   exact⟨rfl,z8⟩
 . obtain⟨n,hn⟩:∃n:Nat,Lib.indexByte (bl s) 58=n:=⟨(Lib.indexByte (bl s) 58).toNat,by omega⟩
   have hv:=k1 n hn;obtain⟨hx,_⟩:=Lib.indexByte_some hn;have Hd:=(List.getElem?_eq_some_iff.1 hx).1;rw[HL.out]at Hd;rw[hn]at ki;have kp:∀w,Calls prog 82 #[.string (s.extract n s.size),.string ⟨#[58,32]⟩] w fun e w'=>e=.returned (.bool (decide ((bl s)[n+1]?=some 32)))/\w'=w:=fun w=>by
    have:=Tryz.strings_HasPrefix (s.extract n s.size) ⟨#[58,32]⟩ w
    rwa [show Lib.hasPrefix (s.extract n s.size).data.toList (⟨#[58,32]⟩:ByteArray).data.toList=decide ((bl s)[n+1]?=some 32) from by rw[<-pre2 (bl s) n hx,<-y1o]]at this
   obtain⟨x,H6⟩:=zM (bl s) 0 (by rw[HL.out];omega);have X:∀h,s[0]'h=x:=zS s 0 x H6;have Hi:=x.toNat_lt;have hh:(bl s).head?=some x:=by rw[List.head?_eq_getElem?];exact H6
   have i0:(0:Int)<=(n:Int):=by omega
   have i1:(n:Int)<=(s.size:Int):=by omega
   have i2:(0:Int)<(s.size:Int):=by omega
   rw[hh]at hv;have KI:=z7 ki;by_cases h1:1<=n
   . have i3:((n:Int)<1)=False:=by simp;omega
     by_cases Ha:x=32
     . subst Ha
       rw[if_neg (fun h=>h.2.1 rfl)]at hv;subst hv;clear k1 k2 H8 ki hm hV kp hn hh H6
       go_enter func313,ntmps313
       go_wp2_with (go_at_call 286;refine(KI.out _).mono ?_;rintro e w1 ⟨rfl,rfl⟩)
       go_ret2
       exact⟨rfl,z8⟩
     . have g32:((x.toNat:Int)==32)=false:=by rw[Y2];exact y2c x 32 (by decide) Ha
       by_cases h2:(bl s)[n+1]?=some 32
       . rw[decide_eq_true h2]at kp
         have Hc:V=if((bl s).take n).all keB=true then n else 0:=by
          rw[hv];by_cases ha:((bl s).take n).all keB=true
          . rw[if_pos ⟨h1,(fun h=>Ha (zF h)),h2,ha⟩,if_pos ha]
          . rw[if_neg (fun h=>ha h.2.2.2),if_neg ha]
         have HV:=z7 Hc;have KP:=z7 kp;have HX:=z7 hx;clear k1 k2 H8 ki hm hV hv Hc kp hn hh H6 h2 Ha hx
         go_enter func313,ntmps313
         go_wp2_with (first
          | (go_at_call 286;refine(KI.out _).mono ?_;rintro e w1 ⟨rfl,rfl⟩)
          | (go_at_call 82;refine(KP.out _).mono ?_;rintro e w1 ⟨rfl,rfl⟩))
         go_loopw [26] (fun i wr=>∃k:Nat,i=.int .i64 (k:Int)/\k<=n/\Hid (((bl s).take k).all keB=true)/\wr=w1) (fun i _=>n-(intOf i).toNat)
         case atStart=>exact⟨0,rfl,zD,z7 (by simp),rfl⟩
         case round=>
          obtain⟨k,rfl,Hg,hA,rfl⟩:=hrel;by_cases Hf:k<n
          . obtain⟨c,hc⟩:=zM (bl s) k (by rw[HL.out];omega)
            have C:∀h,s[k]'h=c:=zS s k c hc;have Hj:=c.toNat_lt;have j0:(0:Int)<=(k:Int):=by omega
            have j1:(k:Int)<(n:Int):=by omega
            have j2:(k:Int)<(s.size:Int):=by omega
            have H9:=zr keB ((bl s).take n) k c (by rw[List.getElem?_take_of_lt Hf];exact hc) (by rw[List.take_take,Nat.min_eq_left Hg];exact hA.out);cases H5:keB c with
            | true=>
             have Hb:=H9.1 H5;rw[List.take_take,Nat.min_eq_left (by omega:k+1<=n)]at Hb;have Hh:=z7 Hb;have g:((65:Int)<=(c.toNat:Int)/\(c.toNat:Int)<=90)\/((97:Int)<=(c.toNat:Int)/\(c.toNat:Int)<=122)\/((48:Int)<=(c.toNat:Int)/\(c.toNat:Int)<=57/\((c.toNat:Int) != 32)=true)\/c=32:=by
              have:∀c:UInt8,keB c=true->((65:Int)<=(c.toNat:Int)/\(c.toNat:Int)<=90)\/((97:Int)<=(c.toNat:Int)/\(c.toNat:Int)<=122)\/((48:Int)<=(c.toNat:Int)/\(c.toNat:Int)<=57/\((c.toNat:Int) != 32)=true)\/c=32:=y07 (by decide +kernel);exact this c H5
             clear H9 Hb H5 hc;rcases g with⟨g1,g2⟩|⟨g1,g2⟩|⟨g1,g2,g3⟩|rfl
             all_goals
              go_wp2_with fail
              go_roundw
              case rel=>exact⟨k+1,by first|omega|go_num,by omega,Hh,trivial⟩
              case measure=>simp[intOf];omega
            | false=>
             have hv:=HV.out;rw[H9.2 H5,if_neg (by decide)]at hv;subst hv;have g:(c.toNat:Int)<32\/((32:Int)<(c.toNat:Int)/\(c.toNat:Int)<48)\/((57:Int)<(c.toNat:Int)/\(c.toNat:Int)<65)\/((90:Int)<(c.toNat:Int)/\(c.toNat:Int)<97/\decide ((c.toNat:Int)<=90)=false)\/((122:Int)<(c.toNat:Int)/\decide ((c.toNat:Int)<=90)=false/\decide ((c.toNat:Int)<=122)=false):=by
              have:∀c:UInt8,keB c=false->(c.toNat:Int)<32\/((32:Int)<(c.toNat:Int)/\(c.toNat:Int)<48)\/((57:Int)<(c.toNat:Int)/\(c.toNat:Int)<65)\/((90:Int)<(c.toNat:Int)/\(c.toNat:Int)<97/\decide ((c.toNat:Int)<=90)=false)\/((122:Int)<(c.toNat:Int)/\decide ((c.toNat:Int)<=90)=false/\decide ((c.toNat:Int)<=122)=false):=y07 (by decide +kernel);exact this c H5
             have g0:((c.toNat:Int) != 32)=true:=by
              have:∀c:UInt8,keB c=false->((c.toNat:Int) != 32)=true:=y07 (by decide +kernel);exact this c H5
             clear H9 H5 hc;rcases g with g1|⟨g1,g2⟩|⟨g1,g2⟩|⟨g1,g2,g3⟩|⟨g1,g3,g4⟩
             all_goals
              go_wp2_with fail
              go_ret2
              exact⟨rfl,z8⟩
          . have H7:k=n:=by omega
            have hv:=HV.out;rw[<-H7,if_pos hA.out,H7]at hv;subst hv;have hd:decide (V≠0)=true:=by simp;omega
            go_wp2_with fail
            go_ret2
            refine⟨?_,z8⟩;show Ending.returned (.tuple #[.int .i64 (V:Int),.bool true])=_;rw[hd]
       . rw[decide_eq_false h2]at kp
         rw[if_neg (fun h=>h2 h.2.2.1)]at hv;subst hv;have KP:=z7 kp;clear k1 k2 H8 ki hm hV kp hn hh H6 h2
         go_enter func313,ntmps313
         go_wp2_with (first
          | (go_at_call 286;refine(KI.out _).mono ?_;rintro e w1 ⟨rfl,rfl⟩)
          | (go_at_call 82;refine(KP.out _).mono ?_;rintro e w1 ⟨rfl,rfl⟩))
         go_ret2
         exact⟨rfl,z8⟩
   . have He:n=0:=by omega
     subst He;rw[if_neg (fun h=>h1 h.1)]at hv;subst hv;clear k1 k2 H8 ki hm hV kp hn hh H6 h1
     go_enter func313,ntmps313
     go_wp2_with (go_at_call 286;refine(KI.out _).mono ?_;rintro e w1 ⟨rfl,rfl⟩)
     go_ret2
     exact⟨rfl,z8⟩
def mixL(k:Nat)(P:List ByteArray):List ByteArray:=(P.take k).map trB++P.drop k
theorem mix_at(k:Nat)(P:List ByteArray)(h:k<=P.length):(mixL k P)[k]?=P[k]?:=by
 unfold mixL;rw[List.getElem?_append_right (by simp;omega),List.getElem?_drop];simp[Nat.min_eq_left h]
theorem yJe(k:Nat)(P:List ByteArray)(p:ByteArray)(h:P[k]?=some p):(mixL k P).set k (trB p)=mixL (k+1) P:=by
 obtain⟨h1,h2⟩:=List.getElem?_eq_some_iff.1 h;unfold mixL;rw[List.set_append_right _ _ (by simp;omega),List.drop_eq_getElem_cons h1,List.take_succ_eq_append_getElem h1];simp[Nat.min_eq_left (Nat.le_of_lt h1),h2]
theorem yJf(P:List ByteArray)(k:Nat)(h:P.length<=k):mixL k P=P.map trB:=by
 unfold mixL;rw[List.take_of_length_le h,List.drop_eq_nil_of_le h,List.append_nil]
theorem yGr(s:ByteArray)(w:World)(hs:s.size<=1000000):Calls prog 166 #[.string s,.string ⟨#[32]⟩] w fun e w'=>e=.returned (.string (trB s))/\Below w.heap.size w w':=
 (Tryz.strings_Trim_one s 32 (by decide) w (by omega)).mono fun e w' ⟨h1,h2⟩=>⟨h1,by rcases h2 with rfl|rfl<;>first|exact z8|exact(z8).drew⟩
def cutA(v:ByteArray):List ByteArray:=Lib.splitB coB 0 (Lib.countB v coB) v
theorem y4i(v:ByteArray):(cutA v).length=Lib.countB v coB+1:=Lib.splitB_all coB (by decide) 0 _ v rfl
theorem yCG(v:ByteArray)(w:World)(hT:TW w)(hs:v.size<=1000000):Calls prog 368 #[.string v,.string coB] w fun e w'=>
 e=.returned (.slice (some ⟨w.heap.size,0,none⟩) (cutA v).length (cutA v).length)/\w'=w.alloc (.cells ((cutA v).map Value.string).toArray 9):=by
 obtain⟨m,hm⟩:∃m:Int,w.cell? ⟨3,0,none⟩=some (.int .i64 m):=hT.ml;have:=Tryz.strings_Split v coB m w (by omega) hm (by decide);rw[y4i];exact this
theorem y1C:∀(k:Nat) (s:ByteArray),∀p∈Lib.splitB coB 0 k s,p.size<=s.size
 | 0,s,p,h=>by rw[Lib.splitB_zero]at h;rw[List.mem_singleton.1 h];exact zA
 | k+1,s,p,h=>by
  rcases y0Z s with hm|⟨i,hm,_,_⟩
  . rw[Lib.splitB_miss _ _ _ _ hm]at h;rw[List.mem_singleton.1 h];exact zA
  . rw[Lib.splitB_hit _ _ _ _ i hm]at h
    rcases List.mem_cons.1 h with rfl|h
    . rw[zG];omega
    . have:=y1C k _ p h
      rw[zG]at this;omega
theorem y6j{w:World}{c i:Nat}{cs:Array Value}{T:Nat}{fr:Nat×Nat}(h:w.heap[c]?=some (.cells cs T fr))(v:Value):(w.setCell ⟨c,i,none⟩ v).heap[c]?=some (.cells (cs.setIfInBounds i v) T fr):=Go.Lib.heap_setCell_same h v
theorem yCz(c:Nat)(ev told:Bool)(fv:Value)(v:ByteArray)(w:World)(hG:GW w)(hs:v.size<=1000000)(hc:w.heap[c]?=some (.cells #[.bool ev,.bool told,fv] 269 (0,0)))(Hj:∀w',But w.heap.size (fun k=>k=c) w w'->GW w'):
 Calls prog 314 #[.pointer (some ⟨c,0,none⟩),.string v] w fun e w'=>e=.returned (.tuple #[])/\But w.heap.size (fun k=>k=c) w w'/\∃bf,w.heap.size<=bf /\
  w'.heap[c]?=some (.cells #[.bool ev,.bool true,.slice (some ⟨bf,0,none⟩) (cutA v).length (cutA v).length] 269 (0,0))/\w'.heap[bf]?=some (.cells (((cutA v).map trB).map Value.string).toArray 9 (0,0)):=by
 have Hi:=lt_of_block hc;obtain⟨c0,c0'⟩:=zL hc 0 _ rfl;obtain⟨c1,c1'⟩:=zL hc 1 _ rfl;obtain⟨c2,c2'⟩:=zL hc 2 _ rfl;obtain⟨P,hP⟩:∃P,P=cutA v:=⟨_,rfl⟩;have Hn:∀p∈P,p.size<=1000000:=fun p hp=>zE (y1C _ v p (by rw[hP]at hp;exact hp)) hs
 have Hv:P.length<=v.size+1:=by rw[hP,y4i];have:=y0k v;omega
 have ks:=fun w' h=>yCG v w' (Hj w' h).tw hs
 rw[<-hP]at ks ⊢;have HC:=z7 hc;have KS:=z7 ks;have Ht:=z7 Hn;have Hw:=z7 Hj;clear ks Hn Hj;clear hc hP hG
 go_enter func314,ntmps314
 go_wp2_with (go_at_call 368;refine(KS.out _ ?_).mono ?_;rotate_left 1;rintro e w1 ⟨rfl,Hp⟩)
 . have bs:∀(W:World) (i:Nat) (x:Value),But w.heap.size (fun k=>k=c) w W->But w.heap.size (fun k=>k=c) w (W.setCell ⟨c,i,none⟩ x):=fun W i x h=>h.trans ⟨rfl,rfl,rfl,by rw[World.size_setCell];exact zA,fun j _ hn=>Below.heap_setCell _ _ _ _ (by rintro rfl;exact hn rfl)⟩
   obtain⟨X2,Hh⟩:∃X2,X2=(w.setCell ⟨c,1,none⟩ (.bool true)).setCell ⟨c,2,none⟩ (.slice (some ⟨w.heap.size,0,none⟩) P.length P.length):=⟨_,rfl⟩;have H6:X2.heap.size=w.heap.size:=by rw[Hh,World.size_setCell,World.size_setCell]
   have Hg:X2.heap[c]?=some (.cells #[.bool ev,.bool true,.slice (some ⟨w.heap.size,0,none⟩) P.length P.length] 269 (0,0)):=by rw[Hh];exact y6j (y6j HC.out (.bool true)) _
   have Hf:But w.heap.size (fun k=>k=c) w X2:=by rw[Hh];exact bs _ _ _ (bs _ _ _ (.of z8))
   have Hb:(X2.alloc (.cells (P.map Value.string).toArray 9)).heap[c]?=_:=(Below.heap_alloc _ _ _ (by rw[H6];exact Hi)).trans Hg;have Hc:(X2.alloc (.cells (P.map Value.string).toArray 9)).heap[w.heap.size]?=some (.cells (P.map Value.string).toArray 9 (0,0)):=by rw[<-H6];exact heap_alloc_new _ _
   have He:=Hf.al (by rw[H6];exact zA) (.cells (P.map Value.string).toArray 9);rw[Hh]at Hb Hc He;clear Hh H6 Hg Hf bs Hp
   go_loopw [19] (fun i wr=>∃k:Nat,i=.int .i64 (k:Int)/\k<=P.length/\Hid (But w.heap.size (fun k=>k=c) w wr)/\Hid (wr.heap[c]?=some (.cells #[.bool ev,.bool true,.slice (some ⟨w.heap.size,0,none⟩) P.length P.length] 269 (0,0)))/\Hid (wr.heap[w.heap.size]?=some (.cells ((mixL k P).map Value.string).toArray 9 (0,0)))) (fun i _=>P.length-(intOf i).toNat)
   case atStart=>exact⟨0,rfl,zD,z7 He,z7 Hb,z7 Hc⟩
   case round=>
    obtain⟨k,rfl,hk,HB,H9,Ha⟩:=hrel;by_cases Hq:k<P.length
    . obtain⟨p,hp⟩:=zM P k Hq
      have Hm:=Ht.out p (List.mem_of_getElem? hp);have H5:((mixL k P).map Value.string).toArray[k]?=some (.string p):=by
       rw[List.getElem?_toArray,List.getElem?_map,mix_at k P hk,hp];rfl
      obtain⟨b0,b0'⟩:=zL Ha.out k _ H5;obtain⟨c2,c2'⟩:=zL H9.out 2 _ rfl;have Hd:(((mixL k P).map Value.string).toArray).setIfInBounds k (.string (trB p))=((mixL (k+1) P).map Value.string).toArray:=by
       rw[<-yJe k P p hp];simp[List.map_set]
      have Hk:=z7 Hd;have j0:(0:Int)<=(k:Int):=by omega
      have j1:(k:Int)<(P.length:Int):=by omega
      have Hs:k+1<=1000001:=by omega
      have KT:=z7 (fun w'=>yGr p w' Hm);have Hu:=z7 H5;clear H5 Hd hp Hm
      go_wp2_with fail
      go_region_with (go_at_call 166;go_loud  (refine(KT.out _).mono ?_);go_loud  (rintro e wt ⟨rfl,H7⟩);go_loud  (have H7:Below wr.heap.size wr wt:=by first|exact H7|exact(Below.refl wr.heap.size wr).drew.trans H7);go_loud  (obtain⟨d0,d0'⟩:=zL ((H7.block _ (lt_of_block Ha.out)).trans Ha.out) k _ Hu.out);go_loud  (obtain⟨d2,d2'⟩:=zL ((H7.block _ (lt_of_block H9.out)).trans H9.out) 2 _ rfl))
      all_goals
       go_wp2_with fail
       go_roundw
       case rel=>
        have Ho:w.heap.size<=wr.heap.size:=HB.out.size;exact⟨k+1,by first|omega|go_num,by omega,z7 ((HB.out.trans (.of (H7.mono Ho))).trans (.of ((Below.refl w.heap.size wt).setCell (p:=⟨w.heap.size,k,none⟩) zA _))),z7 (by rw[Below.heap_setCell _ _ _ _ (by show c≠w.heap.size;omega)];exact(H7.block _ (lt_of_block H9.out)).trans H9.out),z7 (by rw[<-Hk.out];exact y6j ((H7.block _ (lt_of_block Ha.out)).trans Ha.out) _)⟩
       case measure=>simp[intOf];omega
    . have Hr:k=P.length:=by omega
      have H8:=Ha.out;rw[yJf P k (by omega)]at H8;have Hl:=z7 H8;subst Hr;clear H8
      go_wp2_with fail
      go_end0
      exact⟨rfl,HB.out,w.heap.size,zA,H9.out,Hl.out⟩
 . exact⟨rfl,rfl,rfl,by rw[World.size_setCell];exact zA,fun j _ hn=>Below.heap_setCell _ _ _ _ (by rintro rfl;exact hn rfl)⟩
