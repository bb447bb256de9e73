/- B1 -/
import Derived.Deep.RegionHeld3
import Derived.Test.YtagjkmkmphamoaaGreatDoorPB0
set_option linter.all false
set_option maxHeartbeats 4000000
namespace Go.Proofs.YtagjkmkmphamoaaGreatDoor
open Go.RowKit
theorem jr7(l:List UInt8)(k:Nat)(b:UInt8)(h:l[k]?=some b):totL (l.take (k+1))=totL (l.take k)+b.toNat:=by
 rw[List.take_add_one,h,jc8];simp[totL]
theorem jf1(l:List UInt8):totL l≤255*l.length:=by
 induction l with
 | nil=>simp[totL]
 | cons b r ih=>
  rw[kj0,List.length_cons];have:=b.toNat_lt;omega
theorem kv5(s:ByteArray)(w:World)(hs:s.size≤1073741824):Calls Tryz.prog 67 #[.string s] w fun e w'=>e=.returned (.int .i64 (totL (bl s)))∧w=w':=by
 have HL:Hid ((bl s).length=s.size):=jb1 s
 go_enter Tryz.func67,Tryz.ntmps67
 go_wp2_with fail
 go_loop [3,7] (fun nv iv=>∃k:Nat,nv=.int .i64 ((totL ((bl s).take k):Nat):Int)∧iv=.int .i64 (k:Int)∧k≤s.size) (fun _ iv=>s.size-(intOf iv).toNat)
 case atStart=>exact⟨0,by simp[totL],rfl,Nat.zero_le _⟩
 case round=>
  obtain⟨k,rfl,rfl,hk⟩:=hrel;by_cases hlt:k<s.size
  · obtain⟨b,hb⟩:=jb6 (bl s) k (by rw[HL.out];exact hlt)
    have X:∀h,s[k]'h=b:=jc7 s k b hb;have hst:=jr7 (bl s) k b hb;have hle:=jf1 ((bl s).take k);rw[List.length_take]at hle;have hbl:=b.toNat_lt;generalize totL ((bl s).take k)=t at *;have HST:=Lib.hid hst;have j0:(0:Int)≤(k:Int):=by omega
    have j1:(k:Int)<(s.size:Int):=by omega
    have ht:t≤300000000000:=by omega
    have hwr:IntKind.i64.wrap ((t:Int)+b.toNat)=(t:Int)+b.toNat:=wi64 _ (by omega) (by omega);clear hst hb hle
    go_wp2_with fail
    go_round
    case rel=>exact⟨k+1,by rw[HST.out,Int.natCast_add],by go_num,by omega⟩
    case measure=>simp[intOf];omega
  · have hx:totL ((bl s).take k)=totL (bl s):=by rw[List.take_of_length_le (by rw[HL.out];omega)]
    rw[hx];have m1:¬(k:Int)<(s.size:Int):=by omega
    clear hx
    go_wp2_with fail
    go_ret
    exact⟨rfl,rfl⟩
def gV(p:PG):Value:=.agg #[.int .u8 p.fl.toNat,.int .u64 p.po,.int .u32 p.se,.int .u32 p.nu,.string p.la,.string p.bo]
theorem kc5(p:PG)(w:World)(hl:p.la.size≤1073741824)(hb:p.bo.size≤1073741824):Calls Tryz.prog 33 #[gV p] w fun e w'=>e=.returned (.agg #[.int .i64 (gcheckM p),.int .i64 0])∧Below w.heap.size w w':=by
 have k1:=fun w=>kv5 p.la w hl
 have hm:gcheckM p=if 255<p.la.size then 4 else if p.bo.size≠totL (bl p.la)then 5 else 0:=rfl
 rw[hm];clear hm;unfold gV;obtain⟨fl,po,se,nu,la,bo⟩:=p;simp only at k1 hl hb ⊢;generalize totL (bl la)=t at *;generalize (fl.toNat:Int)=f at *;obtain⟨W,hW⟩:∃W,W=(w.alloc (.cells #[.int .u8 f,.int .u64 po,.int .u32 se,.int .u32 nu,.string la,.string bo] 27)).alloc (.cells #[.int .i64 0,.int .i64 0] 54):=⟨_,rfl⟩;have hs1:(w.alloc (.cells #[.int .u8 f,.int .u64 po,.int .u32 se,.int .u32 nu,.string la,.string bo] 27)).heap.size=w.heap.size+1:=World.size_alloc _ _;have P:W.heap[w.heap.size]?=some (.cells #[.int .u8 f,.int .u64 po,.int .u32 se,.int .u32 nu,.string la,.string bo] 27 (0,0)):=by
  rw[hW];exact(heap_alloc_old _ _ (by rw[hs1];omega)).trans (heap_alloc_new _ _)
 have F:W.heap[w.heap.size+1]?=some (.cells #[.int .i64 0,.int .i64 0] 54 (0,0)):=by
  rw[hW,←hs1];exact heap_alloc_new _ _
 have hbW:Below w.heap.size w W:=by rw[hW];exact bal (bal (Below.refl _ _) _) _
 have c4:=(jb0 P 4 _ rfl).1;have c5:=(jb0 P 5 _ rfl).1;obtain⟨q0,q0'⟩:=jb0 F 0 _ rfl;obtain⟨q1,q1'⟩:=jb0 F 1 _ rfl;have K1:=Lib.hid k1;have HBW:=Lib.hid hbW;have F0:=Lib.hid F;clear k1 hbW F;clear hs1 P;by_cases h1:255<la.size
 · rw[if_pos h1]
   have g1:(la.size:Int) > 255:=by omega
   clear h1
   go_enter Tryz.func33,Tryz.ntmps33
   go_upto_region 1 with fail
   rw[←hW];clear hW
   go_wp2_with fail
   refine bodyPost_ret (v:=.agg #[.int .i64 4,.int .i64 0]) (by simp[results,Tryz.results33,go_sem,q0,q1,q0',q1']) rfl ?_;exact⟨rfl,(HBW.out.setCell (by simp) _).setCell (by simp) _⟩
 · rw[if_neg h1]
   have g1:¬(la.size:Int) > 255:=by omega
   clear h1
   go_enter Tryz.func33,Tryz.ntmps33
   go_upto_region 1 with fail
   rw[←hW];clear hW
   go_wp2_with fail
   go_region_held3 (fun w'=>w'.cell? ⟨w.heap.size,4,none⟩=some (.string la)∧w'.cell? ⟨w.heap.size,5,none⟩=some (.string bo)) (first|exact⟨c4,c5⟩|go_keep)
    (first
      | (go_at_call 67;go_loud (refine(K1.out _).mono ?_);go_loud (rintro e1 w1 ⟨rfl,rfl⟩)))
   by_cases h2:bo.size=t
   · have H2:=Lib.hid h2
     have g2:((bo.size:Int) != (t:Int))=false:=by simp;omega
     clear h2
     go_wp2_with fail
     refine bodyPost_ret (v:=.agg #[.int .i64 0,.int .i64 0]) (by simp[results,Tryz.results33,go_sem,q0,q1,q0',q1']) rfl ?_;exact⟨rfl,((HBW.out.setCell (by simp) _).setCell (by simp) _).drew⟩
   · have H2:=Lib.hid h2
     have g2:((bo.size:Int) != (t:Int))=true:=by simp;omega
     clear h2
     go_wp2_with fail
     refine bodyPost_ret (v:=.agg #[.int .i64 5,.int .i64 0]) (by simp[results,Tryz.results33,go_sem,q0,q1,q0',q1']) rfl ?_;exact⟨rfl,((HBW.out.setCell (by simp) _).setCell (by simp) _).drew⟩
def gpartsB(p:PG)(four:ByteArray):List ByteArray:=[oggS,zeroB,⟨#[p.fl]⟩,⟨(leL p.po 8).toArray⟩,⟨(leL p.se 4).toArray⟩,⟨(leL p.nu 4).toArray⟩,four,⟨#[UInt8.ofNat p.la.size]⟩,p.la,p.bo]
theorem kd9(p:PG)(four:ByteArray):((gpartsB p four).map bl).flatten=gpartsL p (bl four):=by
 unfold gpartsB gpartsL;have h0:bl oggS = [79,103,103,83]:=rfl;have h1:bl zeroB = [0]:=rfl;have h2:bl ⟨#[p.fl]⟩ = [p.fl]:=rfl;have h3:bl ⟨#[UInt8.ofNat p.la.size]⟩ = [UInt8.ofNat p.la.size]:=rfl;simp only[List.map_cons,List.map_nil,List.flatten_cons,List.flatten_nil,h0,h1,h2,h3,blL,List.append_nil,List.append_assoc]
set_option maxRecDepth 100000 in
theorem kv9(p:PG)(four:ByteArray)(w:World)(hl:p.la.size≤1073741824)(hp:p.po<18446744073709551616)(hs:p.se<4294967296)(hn:p.nu<4294967296):
 Calls Tryz.prog 54 #[gV p,.string four] w fun e w'=>∃v,e=.returned v∧w'.ownsRow w.heap.size 9 1 v 10 (scells (gpartsB p four))∧Below w.heap.size w w':=by
 have hfl:=p.fl.toNat_lt;have kb1:∀(w:World),Calls Tryz.prog 91 #[.int .u64 (p.fl.toNat:Int),.int .i64 1] w fun e w'=>e=.returned (.string ⟨#[p.fl]⟩)∧Below w.heap.size w w':=by
  intro w;have:=jh8 (p.fl.toNat:Int) 1 w (by omega) (by omega);rw[big_1,UInt8.ofNat_toNat]at this;exact this
 have kb2:∀(w:World),Calls Tryz.prog 91 #[.int .u64 (p.la.size:Int),.int .i64 1] w fun e w'=>e=.returned (.string ⟨#[UInt8.ofNat p.la.size]⟩)∧Below w.heap.size w w':=by
  intro w;have:=jh8 (p.la.size:Int) 1 w (by omega) (by omega);rw[big_1]at this;exact this
 have ks1:∀(w:World),Calls Tryz.prog 92 #[.int .u64 (p.po:Int),.int .i64 8] w fun e w'=>e=.returned (.string ⟨(leL p.po 8).toArray⟩)∧Below w.heap.size w w':=fun w=>by
  have:=jn6 (p.po:Int) 8 w (by omega) (by omega);rw[show widthOf 8=8 by decide]at this;exact this
 have ks2:∀(w:World),Calls Tryz.prog 92 #[.int .u64 (p.se:Int),.int .i64 4] w fun e w'=>e=.returned (.string ⟨(leL p.se 4).toArray⟩)∧Below w.heap.size w w':=fun w=>by
  have:=jn6 (p.se:Int) 4 w (by omega) (by omega);rw[kf3]at this;exact this
 have ks3:∀(w:World),Calls Tryz.prog 92 #[.int .u64 (p.nu:Int),.int .i64 4] w fun e w'=>e=.returned (.string ⟨(leL p.nu 4).toArray⟩)∧Below w.heap.size w w':=fun w=>by
  have:=jn6 (p.nu:Int) 4 w (by omega) (by omega);rw[kf3]at this;exact this
 unfold gV gpartsB;obtain⟨fl,po,se,nu,la,bo⟩:=p;simp only at kb1 kb2 ks1 ks2 ks3 hl hp hs hn hfl ⊢;have hw1:IntKind.u64.wrap (fl.toNat:Int)=(fl.toNat:Int):=by rw[IntKind.wrap_u64];omega
 have hw2:IntKind.u64.wrap (se:Int)=se:=by rw[IntKind.wrap_u64];omega
 have hw3:IntKind.u64.wrap (nu:Int)=nu:=by rw[IntKind.wrap_u64];omega
 have hw4:IntKind.u64.wrap (la.size:Int)=la.size:=by rw[IntKind.wrap_u64];omega
 generalize (⟨#[fl]⟩:ByteArray)=S1 at *;generalize (⟨#[UInt8.ofNat la.size]⟩:ByteArray)=S2 at *;generalize (⟨(leL po 8).toArray⟩:ByteArray)=S3 at *;generalize (⟨(leL se 4).toArray⟩:ByteArray)=S4 at *;generalize (⟨(leL nu 4).toArray⟩:ByteArray)=S5 at *;generalize (fl.toNat:Int)=f at *;obtain⟨W,hW⟩:∃W,W=w.alloc (.cells #[.int .u8 f,.int .u64 po,.int .u32 se,.int .u32 nu,.string la,.string bo] 27):=⟨_,rfl⟩;have P:W.heap[w.heap.size]?=some (.cells #[.int .u8 f,.int .u64 po,.int .u32 se,.int .u32 nu,.string la,.string bo] 27 (0,0)):=by
  rw[hW];exact heap_alloc_new _ _
 have hbW:Below w.heap.size w W:=by rw[hW];exact bal (Below.refl _ _) _
 have KSA:Hid (∀wz,Below W.heap.size W wz→wz.cell? ⟨w.heap.size,0,none⟩=some (.int .u8 f)∧wz.cell? ⟨w.heap.size,1,none⟩=some (.int .u64 po)∧wz.cell? ⟨w.heap.size,2,none⟩=some (.int .u32 se)∧wz.cell? ⟨w.heap.size,3,none⟩=some (.int .u32 nu)∧wz.cell? ⟨w.heap.size,4,none⟩=some (.string la)∧wz.cell? ⟨w.heap.size,5,none⟩=some (.string bo)):=Lib.hid fun wz hb=>by
  have hP:=(hb.block _ (Array.getElem?_eq_some_iff.1 P).1).trans P;exact⟨(jb0 hP 0 _ rfl).1,(jb0 hP 1 _ rfl).1,(jb0 hP 2 _ rfl).1,(jb0 hP 3 _ rfl).1,(jb0 hP 4 _ rfl).1,(jb0 hP 5 _ rfl).1⟩
 have hbk:=Below.refl W.heap.size W;have KB1:=Lib.hid kb1;have KB2:=Lib.hid kb2;have KS1:=Lib.hid ks1;have KS2:=Lib.hid ks2;have KS3:=Lib.hid ks3;have HBW:=Lib.hid hbW;clear kb1 kb2 ks1 ks2 ks3 hbW;clear P hl hp hs hn hfl
 go_enter Tryz.func54,Tryz.ntmps54
 go_upto_region 1 with fail
 rw[←hW];clear hW
 go_region_held3 (fun w'=>w'.cell? ⟨w.heap.size,0,none⟩=some (.int .u8 f)∧w'.cell? ⟨w.heap.size,1,none⟩=some (.int .u64 po)∧w'.cell? ⟨w.heap.size,2,none⟩=some (.int .u32 se)∧w'.cell? ⟨w.heap.size,3,none⟩=some (.int .u32 nu)∧w'.cell? ⟨w.heap.size,4,none⟩=some (.string la)∧w'.cell? ⟨w.heap.size,5,none⟩=some (.string bo))
  (first|(with_reducible refine KSA.out _ ?_;with_reducible first|exact hbk|exact hbk.drew|exact bal hbk _|exact bal hbk.drew _)|go_keep)
  (first
    | (go_at_call 91;go_loud (first|with_reducible refine(KB1.out _).mono ?_|with_reducible refine(KB2.out _).mono ?_);go_loud (rintro e1 w1 ⟨rfl,hbx⟩);go_loud (replace hbk:Below W.heap.size W w1:=by with_reducible first|exact bt hbk hbx|exact bt hbk.drew hbx);go_loud (clear hbx))
    | (go_at_call 92;go_loud (first|with_reducible refine(KS1.out _).mono ?_|with_reducible refine(KS2.out _).mono ?_|with_reducible refine(KS3.out _).mono ?_);go_loud (rintro e1 w1 ⟨rfl,hbx⟩);go_loud (replace hbk:Below W.heap.size W w1:=by with_reducible first|exact bt hbk hbx|exact bt hbk.drew hbx);go_loud (clear hbx)))
 go_wp2_with fail
 go_ret
 have ho:(w1.alloc (.cells #[.string ⟨#[79,103,103,83]⟩,.string ⟨#[0]⟩,.string S1,.string S3,.string S4,.string S5,.string four,.string S2,.string la,.string bo] 9)).ownsRow w1.heap.size 9 1 (.slice (some ⟨w1.heap.size,0,none⟩) 10 10) 10 (scells [oggS,zeroB,S1,S3,S4,S5,four,S2,la,bo]):=
  World.ownsRow_lit (size:=1) (base:=w1.heap.size) w1 #[.string ⟨#[79,103,103,83]⟩,.string ⟨#[0]⟩,.string S1,.string S3,.string S4,.string S5,.string four,.string S2,.string la,.string bo] 10 (Nat.le_refl _) (by unfold maxLen;omega) rfl
 have hz:=(HBW.out.trans (hbk.mono HBW.out.size)).size;exact⟨_,rfl,jc3 ho hz,bal (HBW.out.trans (hbk.mono HBW.out.size)) _⟩
def smG(p:PG):Prop:=p.la.size≤1073741824∧p.bo.size≤1073741824∧p.po<18446744073709551616∧p.se<4294967296∧p.nu<4294967296
def crcN(l:List UInt8):Nat:=(crcF 0 l).toNat
theorem kc7(l:List UInt8):crcN l<4294967296:=by
 have:=jw8 l 0 (by omega);unfold crcN;omega
theorem crcN_int(l:List UInt8):((crcN l:Nat):Int)=crcF 0 l:=by
 have:=jw8 l 0 (by omega);unfold crcN;omega
theorem xf0{p:PG}(h:smG p)(four:ByteArray)(hf:four.size≤1000):∀t∈gpartsB p four,t.size≤1073741824:=by
 obtain⟨h1,h2,_⟩:=h;intro t ht;simp only[gpartsB,List.mem_cons,List.not_mem_nil,or_false]at ht;rcases ht with rfl|rfl|rfl|rfl|rfl|rfl|rfl|rfl|rfl|rfl
 · decide
 · decide
 · show(1:Nat)≤_;decide
 · rw[szL,kb9];decide
 · rw[szL,kb9];decide
 · rw[szL,kb9];decide
 · omega
 · show(1:Nat)≤_;decide
 · exact h1
 · exact h2
theorem vb9(p:PG)(w:World)(h:smG p):Calls Tryz.prog 55 #[gV p] w fun e w'=>e=.returned (.int .u32 (gsumM crcN p:Int))∧Below w.heap.size w w':=by
 have hbe:=bal (Below.refl w.heap.size w) (.cells #[.int .u8 p.fl.toNat,.int .u64 p.po,.int .u32 p.se,.int .u32 p.nu,.string p.la,.string p.bo] 27);have k1:=fun w=>kv9 p ⟨#[0,0,0,0]⟩ w h.1 h.2.2.1 h.2.2.2.1 h.2.2.2.2
 have k2:∀(v:Value) (w:World),Row w v 10 (scells (gpartsB p ⟨#[0,0,0,0]⟩))→Calls Tryz.prog 93 #[v] w fun e w'=>e=.returned (.int .u32 (gsumM crcN p:Int))∧Below w.heap.size w w':=by
  intro v w hr;have:=qq0 (gpartsB p ⟨#[0,0,0,0]⟩) v w hr (xf0 h _ (by decide)) (by show 10≤_;decide);rw[kd9]at this;unfold gsumM;rw[crcN_int];exact this
 obtain⟨c0,_⟩:=Live.fresh w #[.int .u8 p.fl.toNat,.int .u64 p.po,.int .u32 p.se,.int .u32 p.nu,.string p.la,.string p.bo] 27 0 _ rfl;obtain⟨c1,_⟩:=Live.fresh w #[.int .u8 p.fl.toNat,.int .u64 p.po,.int .u32 p.se,.int .u32 p.nu,.string p.la,.string p.bo] 27 1 _ rfl;obtain⟨c2,_⟩:=Live.fresh w #[.int .u8 p.fl.toNat,.int .u64 p.po,.int .u32 p.se,.int .u32 p.nu,.string p.la,.string p.bo] 27 2 _ rfl;obtain⟨c3,_⟩:=Live.fresh w #[.int .u8 p.fl.toNat,.int .u64 p.po,.int .u32 p.se,.int .u32 p.nu,.string p.la,.string p.bo] 27 3 _ rfl;obtain⟨c4,_⟩:=Live.fresh w #[.int .u8 p.fl.toNat,.int .u64 p.po,.int .u32 p.se,.int .u32 p.nu,.string p.la,.string p.bo] 27 4 _ rfl;obtain⟨c5,_⟩:=Live.fresh w #[.int .u8 p.fl.toNat,.int .u64 p.po,.int .u32 p.se,.int .u32 p.nu,.string p.la,.string p.bo] 27 5 _ rfl;generalize gsumM crcN p=SM at *;unfold gV at k1 ⊢;generalize gpartsB p ⟨#[0,0,0,0]⟩=GP at *;have K1:=Lib.hid k1;have K2:=Lib.hid k2;have HBE:=Lib.hid hbe;clear k1 k2 hbe
 go_enter Tryz.func55,Tryz.ntmps55
 go_wp2_with (first
  | (go_at_call 54;go_loud (refine(K1.out _).mono ?_);go_loud (rintro e1 w1 ⟨v1,rfl,ho1,hb1⟩);go_loud (have hr1:=jc2 ho1))
  | (go_at_call 93;go_loud (refine(K2.out _ _ hr1).mono ?_);go_loud (rintro e2 w2 ⟨rfl,hb2⟩)))
 go_ret
 first
  | exact⟨rfl,bt (bt HBE.out hb1) hb2⟩
  | exact⟨rfl,bt hb1 hb2⟩
set_option maxRecDepth 100000 in
theorem kv7(p:PG)(w:World)(hg:gG p)(hb:p.bo.size≤1073741824):Calls Tryz.prog 25 #[gV p] w fun e w'=>e=.returned (.tuple #[.string ⟨(gprintL crcN p).toArray⟩,.agg #[.int .i64 0,.int .i64 0]])∧Below w.heap.size w w':=by
 have hsm:smG p:=⟨by have:=hg.1;omega,hb,hg.2.2.1,hg.2.2.2.1,hg.2.2.2.2⟩;have kc0:∀w,Calls Tryz.prog 33 #[gV p] w fun e w'=>e=.returned (.agg #[.int .i64 0,.int .i64 0])∧Below w.heap.size w w':=by
  intro w;have:=kc5 p w hsm.1 hsm.2.1;rw[(jj7 p).2 ⟨hg.1,hg.2.1⟩]at this;exact this
 have kbad:=fun w=>jb8 0 0 w
 have ksum:=fun w=>vb9 p w hsm
 have kbytes:=fun w=>vf5 (gsumM crcN p:Int) w ⟨by omega,by have:=kc7 (gpartsL p [0,0,0,0]);unfold gsumM;omega⟩
 have kparts:=fun w=>kv9 p ⟨(leL (gsumM crcN p) 4).toArray⟩ w hsm.1 hsm.2.2.1 hsm.2.2.2.1 hsm.2.2.2.2
 have hflat:((gpartsB p ⟨(leL (gsumM crcN p) 4).toArray⟩).map bl).flatten=gprintL crcN p:=by rw[kd9,blL];rfl
 have kjoin:∀(B:Nat) (v:Value) (w:World),w.ownsRow B 9 1 v 10 (scells (gpartsB p ⟨(leL (gsumM crcN p) 4).toArray⟩))→Calls Tryz.prog 26 #[v] w fun e w'=>e=.returned (.string ⟨(gprintL crcN p).toArray⟩)∧Below w.heap.size w w':=by
  intro B v w ho;have:=jh3 B v (gpartsB p ⟨(leL (gsumM crcN p) 4).toArray⟩) w ho (by simp[gpartsB]) (by show 10≤_;decide) (by rw[hflat,jg7];have:=hg.1;omega);rw[hflat]at this;exact this
 generalize (⟨(gprintL crcN p).toArray⟩:ByteArray)=OUT at *;generalize gpartsB p ⟨(leL (gsumM crcN p) 4).toArray⟩=GP at *;generalize (⟨(leL (gsumM crcN p:Int) 4).toArray⟩:ByteArray)=FOUR at *;generalize ((gsumM crcN p:Nat):Int)=SM at *;unfold gV at *;obtain⟨fl,po,se,nu,la,bo⟩:=p;simp only at kc0 ksum kparts ⊢;generalize (fl.toNat:Int)=f at *;obtain⟨W,hW⟩:∃W,W=(w.alloc (.cells #[.int .u8 f,.int .u64 po,.int .u32 se,.int .u32 nu,.string la,.string bo] 27)).alloc (.cells #[.int .i64 0,.int .i64 0] 54):=⟨_,rfl⟩;have hs1:(w.alloc (.cells #[.int .u8 f,.int .u64 po,.int .u32 se,.int .u32 nu,.string la,.string bo] 27)).heap.size=w.heap.size+1:=World.size_alloc _ _;have P:W.heap[w.heap.size]?=some (.cells #[.int .u8 f,.int .u64 po,.int .u32 se,.int .u32 nu,.string la,.string bo] 27 (0,0)):=by
  rw[hW];exact(heap_alloc_old _ _ (by rw[hs1];omega)).trans (heap_alloc_new _ _)
 have F:W.heap[w.heap.size+1]?=some (.cells #[.int .i64 0,.int .i64 0] 54 (0,0)):=by
  rw[hW,←hs1];exact heap_alloc_new _ _
 have hbW:Below w.heap.size w W:=by rw[hW];exact bal (bal (Below.refl _ _) _) _
 have KSA:Hid (∀wz,Below W.heap.size W wz→wz.cell? ⟨w.heap.size,0,none⟩=some (.int .u8 f)∧wz.cell? ⟨w.heap.size,1,none⟩=some (.int .u64 po)∧wz.cell? ⟨w.heap.size,2,none⟩=some (.int .u32 se)∧wz.cell? ⟨w.heap.size,3,none⟩=some (.int .u32 nu)∧wz.cell? ⟨w.heap.size,4,none⟩=some (.string la)∧wz.cell? ⟨w.heap.size,5,none⟩=some (.string bo)):=Lib.hid fun wz hb=>by
  have hP:=(hb.block _ (Array.getElem?_eq_some_iff.1 P).1).trans P;exact⟨(jb0 hP 0 _ rfl).1,(jb0 hP 1 _ rfl).1,(jb0 hP 2 _ rfl).1,(jb0 hP 3 _ rfl).1,(jb0 hP 4 _ rfl).1,(jb0 hP 5 _ rfl).1⟩
 have KF:Hid (∀wz,Below W.heap.size W wz→wz.heap[w.heap.size+1]?=some (.cells #[.int .i64 0,.int .i64 0] 54 (0,0))):=Lib.hid fun wz hb=>(hb.block _ (Array.getElem?_eq_some_iff.1 F).1).trans F
 obtain⟨c0,c1,c2,c3,c4,c5⟩:=KSA.out W (Below.refl _ _);have hbk:=Below.refl W.heap.size W;have KC0:=Lib.hid kc0;have KBAD:=Lib.hid kbad;have KSUM:=Lib.hid ksum;have KBYTES:=Lib.hid kbytes;have KPARTS:=Lib.hid kparts;have KJOIN:=Lib.hid kjoin;have HBW:=Lib.hid hbW;clear kc0 kbad ksum kbytes kparts kjoin hbW;clear hs1 P F hg hb hsm hflat
 go_enter Tryz.func25,Tryz.ntmps25
 go_wp2_with fail
 rw[←hW];clear hW
 go_upto_region 4 with(first
  | (go_at_call 33;go_loud (refine(KC0.out _).mono ?_);go_loud (rintro e1 w1 ⟨rfl,hb1⟩);go_loud (replace hbk:=bal (bt hbk hb1) (.cells #[.int .i64 0,.int .i64 0] 54)))
  | (go_at_call 16;go_loud (refine(KBAD.out _).mono ?_);go_loud (rintro e2 w2 ⟨rfl,hb2⟩);go_loud (replace hbk:=bt hbk hb2)))
 clear c0 c1 c2 c3 c4 c5
 go_region_held3 (fun w'=>w'.cell? ⟨w.heap.size,0,none⟩=some (.int .u8 f)∧w'.cell? ⟨w.heap.size,1,none⟩=some (.int .u64 po)∧w'.cell? ⟨w.heap.size,2,none⟩=some (.int .u32 se)∧w'.cell? ⟨w.heap.size,3,none⟩=some (.int .u32 nu)∧w'.cell? ⟨w.heap.size,4,none⟩=some (.string la)∧w'.cell? ⟨w.heap.size,5,none⟩=some (.string bo))
  (first|(with_reducible refine KSA.out _ ?_;with_reducible first|exact hbk|exact hbk.drew|exact bal hbk _|exact bal hbk.drew _)|go_keep)
  (first
    | (go_at_call 55;go_loud (refine(KSUM.out _).mono ?_);go_loud (rintro e3 w3 ⟨rfl,hbx⟩);go_loud (replace hbk:Below W.heap.size W w3:=by with_reducible first|exact bt hbk hbx|exact bt hbk.drew hbx);go_loud (clear hbx))
    | (go_at_call 56;go_loud (refine(KBYTES.out _).mono ?_);go_loud (rintro e4 w4 ⟨rfl,hbx⟩);go_loud (replace hbk:Below W.heap.size W w4:=by with_reducible first|exact bt hbk hbx|exact bt hbk.drew hbx);go_loud (clear hbx))
    | (go_at_call 54;go_loud (refine(KPARTS.out _).mono ?_);go_loud (rintro e5 w5 ⟨v5,rfl,ho5,hbx⟩);go_loud (replace hbk:Below W.heap.size W w5:=by with_reducible first|exact bt hbk hbx|exact bt hbk.drew hbx);go_loud (clear hbx))
    | (go_at_call 26;go_loud (refine(KJOIN.out _ _ _ ho5).mono ?_);go_loud (rintro e6 w6 ⟨rfl,hbx⟩);go_loud (replace hbk:Below W.heap.size W w6:=by with_reducible first|exact bt hbk hbx|exact bt hbk.drew hbx);go_loud (clear hbx);go_loud (obtain⟨q0,q0'⟩:=jb0 (KF.out _ hbk) 0 _ rfl);go_loud (obtain⟨q1,q1'⟩:=jb0 (KF.out _ hbk) 1 _ rfl)))
 go_wp2_with fail
 refine bodyPost_ret (v:=.tuple #[.string OUT,.agg #[.int .i64 0,.int .i64 0]]) (by simp[results,Tryz.results25,go_sem,q0,q1,q0',q1']) rfl ?_;exact⟨rfl,((HBW.out.trans (hbk.mono HBW.out.size)).setCell (by simp) _).setCell (by simp) _⟩
theorem u64_or8b(x y:Int)(hx₀:0≤x)(hx:x%256=0)(hx₁:x<18446744073709551616)(hy₀:0≤y)(hy:y<256):bits .or .u64 x y=x+y:=
 bits_join .u64 64 (by decide) jd3 8 x y hx₀ hx (by omega) hy₀ hy (by omega)
theorem jt7(w:World)(r:Nat)(x:RS)(n:Nat)(h:InX w r x)(hk:okR x)(hn:n≤8):
 Calls Tryz.prog 81 #[.pointer (some ⟨r,0,none⟩),.int .i64 n] w fun v w'=>v=.returned (.int .u64 ((smallR x n).2:Int))∧InX w' r (smallR x n).1∧w.grownBy w' (some r):=by
 have k1:∀w,Calls Tryz.prog 105 #[.int .i64 n] w fun e w'=>e=.returned (.int .i64 n)∧w=w':=fun w=>by
  have:=jr6 n w;rw[show widthOf (n:Int)=n from by unfold widthOf;omega]at this;exact this
 have k2:=fun w h=>jq3 w r x n h hk (by omega) (by omega)
 have hsz:(takeR x n).2.size≤n:=jm8 x n;unfold smallR;generalize takeR x n=y at *;obtain⟨y,t⟩:=y;simp only at k2 hsz ⊢;have HL:Hid ((bl t).length=t.size):=jb1 t;have K1:=Lib.hid k1;have K2:=Lib.hid k2;clear k1 k2
 go_enter Tryz.func81,Tryz.ntmps81
 go_wp2_with (first
  | (go_at_call 105;refine(K1.out _).mono ?_;rintro x w1 ⟨rfl,rfl⟩)
  | (go_at_call 102;refine(K2.out _ h).mono ?_;rintro x w2 ⟨rfl,hi,hg⟩))
 go_loop [6,7] (fun n i=>∃k:Nat,i=.int .i64 ((k:Int)-1)∧n=.int .u64 (leN ((bl t).drop k):Int)∧k≤t.size) (fun _ i=>(intOf i+1).toNat)
 case atStart=>exact⟨t.size,rfl,by rw[List.drop_of_length_le (by rw[HL.out];exact Nat.le_refl _)];rfl,Nat.le_refl _⟩
 case round=>
  obtain⟨k,rfl,rfl,hkt⟩:=hrel;cases k with
  | zero=>
   have e0:((0:Nat):Int)-1 = -1:=by omega
   rw[List.drop_zero]
   go_wp2
   go_ret
   exact⟨rfl,hi,hg⟩
  | succ j=>
   obtain⟨c,hc⟩:=jb6 (bl t) j (by rw[HL.out];omega);have C:∀h,t[j]'h=c:=jc7 t j c hc;have hst:=xc0 (bl t) j c hc;have hb:=vb2 ((bl t).drop (j+1));have hcl:=c.toNat_lt;have hb2:leN ((bl t).drop (j+1))<72057594037927936:=by
    refine Nat.lt_of_lt_of_le hb ?_;have:((bl t).drop (j+1)).length≤7:=by rw[List.length_drop,HL.out];omega
    exact Nat.le_trans (Nat.pow_le_pow_right (by decide) this) (by decide)
   clear hb hc;generalize leN ((bl t).drop (j+1))=q at *;have ej:(((j+1:Nat):Int)-1)=(j:Int):=by omega
   rw[ej];have HST:=Lib.hid hst;clear hst;have hmod:(q:Int)*256%18446744073709551616=(q:Int)*256:=by omega
   have hor:bits .or .u64 ((q:Int)*256) (c.toNat:Int)=(q:Int)*256+c.toNat:=u64_or8b _ _ (by omega) (by omega) (by omega) (by omega) (by omega)
   go_wp2_with fail
   exact⟨⟨j,rfl,by rw[HST.out];congr 1;omega,by omega⟩,by simp[intOf]⟩
end Go.Proofs.YtagjkmkmphamoaaGreatDoor
