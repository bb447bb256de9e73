/- C2 -/
import Derived.Test.YtagjkmkmphamoaaGreatDoorPYm
import Derived.Test.YtagjkmkmphamoaaGreatDoorPB8
import Derived.Test.YtagjkmkmphamoaaGreatDoorPB9
import Derived.Test.YtagjkmkmphamoaaGreatDoorPB0
set_option linter.all false
set_option maxHeartbeats 16000000
namespace Go.Proofs.YtagjkmkmphamoaaGreatDoor
open Go.RowKit
theorem qm4(l:List PG)(k:Nat)(h:∀p∈l,gG p):((l.take k).flatMap (gprintL crcN)).length≤l.length*65307:=by
 have h1:=jp0 (l.take k) fun p hp=>h p (List.mem_of_mem_take hp)
 rw[List.length_take]at h1;exact Nat.le_trans h1 (Nat.mul_le_mul_right _ (Nat.min_le_right _ _))
theorem kq9(l:List PG)(k:Nat)(p:PG)(h:l[k]?=some p):(l.take (k+1)).flatMap (gprintL crcN)=(l.take k).flatMap (gprintL crcN)++gprintL crcN p:=by
 rw[List.take_add_one,h,List.flatMap_append];simp
set_option maxRecDepth 100000 in
theorem qg2(vn vs:Value)(s:OS)(w:World)(hrow:RoRow w vn vs s)(hok:smOS s)(ho:okO s)(hbig:bigO s)(hnl:s.b.ns.length≤1000)(hsm:∀n∈s.b.ns,n.name.size≤1000∧n.text.size≤1000)(hvt:s.b.vt.size≤1000):
 Calls Tryz.prog 15 #[.agg (roC vn vs s)] w fun e w'=>e=.returned (.string (toB ((opagesL s).flatMap (gprintL crcN))))∧Below w.heap.size w w':=by
 have kp:∀w',Below w.heap.size w w'→Calls Tryz.prog 12 #[.agg (roC vn vs s)] w' (RGPost (opagesL s) w'):=fun w' hb=>kd4 vn vs s w' (hrow.keep hb) hok ho hbig hnl hsm hvt
 have hgood:=jk3 ho;have hlen:=ho.2.2.2.2.2;obtain⟨an,cn,rfl,_⟩:=hrow.1;obtain⟨as_,cs_,rfl,_⟩:=hrow.2;unfold RGPost at kp;generalize opagesL s=L at *;obtain⟨n,hn⟩:∃n,n=L.length:=⟨_,rfl⟩;rw[←hn]at hlen kp;have hft:=fun k=>qm4 L k hgood
 have kg:∀(p:PG),gG p→∀w,Calls Tryz.prog 45 #[.agg #[.int .i64 p.fl.toNat,.int .u64 p.po,.int .u64 p.se,.int .u64 p.nu,.string p.la,.string p.bo]] w fun e w'=>e=.returned (.string (toB (gprintL crcN p)))∧Below w.heap.size w w':=fun p hp w=>
  rp17_any p w ⟨hp.2.2.1,hp.2.2.2.1,hp.2.2.2.2⟩ ⟨by have:=hp.1;omega,by have:=xf6 hp;omega⟩
 obtain⟨O,hO⟩:∃O,O=toB (L.flatMap (gprintL crcN)):=⟨_,rfl⟩;rw[←hO];clear hrow hok ho hbig hnl hsm hvt;obtain⟨W,hW⟩:∃W,W=w.alloc (.cells (roC (.slice an s.b.ns.length cn) (.slice as_ s.sound.length cs_) s) 48):=⟨_,rfl⟩;have hbW:Below w.heap.size w W:=by rw[hW];exact bal (Below.refl _ _) _
 have B0:W.heap[w.heap.size]?=some (.cells (roC (.slice an s.b.ns.length cn) (.slice as_ s.sound.length cs_) s) 48 (0,0)):=by rw[hW];exact heap_alloc_new _ _
 have KP:=Lib.hid kp;have HGOOD:=Lib.hid hgood;have HN:=Lib.hid hn;have KG:=Lib.hid kg;have HO:=Lib.hid hO;have HBW:=Lib.hid hbW;have HB0:=Lib.hid B0;have HFT:=Lib.hid hft;clear kp hgood hn kg hO hbW B0 hft;obtain⟨x0,_⟩:=jb0 (HB0.out) 0 _ rfl;obtain⟨x1,_⟩:=jb0 (HB0.out) 1 _ rfl;obtain⟨x2,_⟩:=jb0 (HB0.out) 2 _ rfl;obtain⟨x3,_⟩:=jb0 (HB0.out) 3 _ rfl;obtain⟨x4,_⟩:=jb0 (HB0.out) 4 _ rfl;obtain⟨x5,_⟩:=jb0 (HB0.out) 5 _ rfl;obtain⟨x6,_⟩:=jb0 (HB0.out) 6 _ rfl;obtain⟨x7,_⟩:=jb0 (HB0.out) 7 _ rfl;obtain⟨x8,_⟩:=jb0 (HB0.out) 8 _ rfl;obtain⟨x9,_⟩:=jb0 (HB0.out) 9 _ rfl;obtain⟨x10,_⟩:=jb0 (HB0.out) 10 _ rfl;obtain⟨x11,_⟩:=jb0 (HB0.out) 11 _ rfl
 go_enter Tryz.func15,Tryz.ntmps15
 go_wp2_with fail
 rw[←hW];clear hW
 go_wp2_with (first
  | (go_at_call 12;(with_reducible refine(KP.out _ HBW.out).mono ?_);rintro e1 w1 ⟨hb1,v1,rfl,ho1⟩;obtain⟨a1,c1,rfl⟩:=jb4 ho1)
  | fail)
 clear x0 x1 x2 x3 x4 x5 x6 x7 x8 x9 x10 x11;have HB1:=Lib.hid (bt HBW.out hb1);obtain⟨a2,c2,e2,hc2⟩:=jc2 ho1;simp only[Value.slice.injEq]at e2;obtain⟨rfl,_,rfl⟩:=e2;have HC:=Lib.hid hc2;clear ho1 hb1 hc2
 go_loopw [4,5] (fun ov iv wr=>∃i:Nat,ov=.string (toB ((L.take i).flatMap (gprintL crcN)))∧iv=.int .i64 (i:Int)∧i≤n∧Hid (Below w1.heap.size w1 wr)) (fun _ iv _=>n-(intOf iv).toNat)
 case atStart=>exact⟨0,rfl,rfl,Nat.zero_le _,Lib.hid (Below.refl _ _)⟩
 case round=>
  obtain⟨i,rfl,rfl,hi,HB⟩:=hrel;by_cases hlt:i<n
  · obtain⟨p,hp⟩:=jb6 L i (by rw[←HN.out];exact hlt)
    obtain⟨gg,og,rfl,d0,d1,d2,d3,d4,d5⟩:=qq9 HC.out i p hp;replace d0:=kc HB.out d0;replace d1:=kc HB.out d1;replace d2:=kc HB.out d2;replace d3:=kc HB.out d3;replace d4:=kc HB.out d4;replace d5:=kc HB.out d5;have hgp:=HGOOD.out p (List.mem_of_getElem? hp);have kg:=fun w=>KG.out p hgp w
    have e1:toB ((L.take i).flatMap (gprintL crcN))++toB (gprintL crcN p)=toB ((L.take (i+1)).flatMap (gprintL crcN)):=by rw[kq9 L i p hp,qd9]
    have s1:(toB ((L.take i).flatMap (gprintL crcN))).size≤n*65307:=by rw[szB,HN.out];exact HFT.out i
    have s2:(toB (gprintL crcN p)).size≤65307:=by
     rw[szB];have:=jp0 [p] (by simpa using hgp);simpa using this
    generalize toB ((L.take i).flatMap (gprintL crcN))=A at *;generalize toB (gprintL crcN p)=C at *;have v1:¬9223372036854775807<A.size+C.size:=by omega
    have v2:A.size+C.size≤9223372036854775807:=by omega
    have m0:(0:Int)≤(i:Int):=by omega
    have m1:(i:Int)<(n:Int):=by omega
    have HE1:=Lib.hid e1;have KG1:=Lib.hid kg;clear hp hgp e1 kg s1 s2
    go_wp2_with (first
     | (go_at_call 45;(with_reducible refine(KG1.out _).mono ?_);rintro e5 w5 ⟨rfl,hb5⟩)
     | fail)
    go_roundw
    case rel=>exact⟨i+1,by rw[HE1.out],by first|omega|go_num,by omega,Lib.hid (bt HB.out hb5)⟩
    case measure=>simp[intOf];omega
  · have hin:i=n:=by omega
    have m1:¬(i:Int)<(n:Int):=by omega
    have e1:toB ((L.take i).flatMap (gprintL crcN))=O:=by rw[hin,List.take_of_length_le (by rw[←HN.out];exact Nat.le_refl _),HO.out]
    rw[e1];clear e1 hin
    go_wp2_with fail
    go_ret
    exact⟨rfl,bt HB1.out HB.out⟩
theorem crc_one:crcF 0 [1]=79764919:=by decide +kernel
set_option maxRecDepth 100000 in
theorem qw3(w:World):Calls Tryz.prog 86 #[] w fun e w'=>e=.returned (.bool true)∧Below w.heap.size w w':=by
 have k1:=fun w=>kq0 w
 have k2:∀w,Calls Tryz.prog 93 #[.slice none 0 0] w fun e w'=>e=.returned (.int .u32 0)∧Below w.heap.size w w':=fun w=>qq0 [] (.slice none 0 0) w (Row.nil w) (fun t ht=>by cases ht) (by decide)
 have k3:∀X:World,Calls Tryz.prog 93 #[.slice (some ⟨X.heap.size,0,none⟩) 1 1] (X.alloc (.cells #[.string ⟨#[1]⟩] 9)) fun e w'=>e=.returned (.int .u32 79764919)∧Below X.heap.size X w':=fun X=>by
  have:=qq0 [⟨#[1]⟩] (.slice (some ⟨X.heap.size,0,none⟩) 1 1) (X.alloc (.cells #[.string ⟨#[1]⟩] 9)) (kk4 X _ _ 1) (fun t ht=>by simp at ht;subst ht;decide) (by show 1≤_;decide);rw[show crcF 0 (([(⟨#[1]⟩:ByteArray)].map bl).flatten)=79764919 from crc_one]at this;exact this.mono fun e w' h=>⟨h.1,bt (bal (Below.refl _ _) _) h.2⟩
 have K1:=Lib.hid k1;have K2:=Lib.hid k2;have K3:=Lib.hid k3;clear k1 k2 k3
 go_enter Tryz.func86,Tryz.ntmps86
 go_wp2_with (first
  | (go_at_call 87;refine(K1.out _).mono ?_;rintro e w1 ⟨rfl,hb1⟩)
  | (go_at_call 93;(with_reducible refine(K2.out _).mono ?_);rintro e w2 ⟨rfl,hb2⟩)
  | (go_at_call 93;(with_reducible refine(K3.out _).mono ?_);rintro e w3 ⟨rfl,hb3⟩)
  | fail)
 go_ret
 exact⟨rfl,bt (bt hb1 hb2) hb3⟩
theorem eqPG0(a b c d:Int)(x y:ByteArray)(w:World):(Op.equalIn 10000 27 (.agg #[.int .u8 a,.int .u64 b,.int .u32 c,.int .u32 d,.string x,.string y]) (.agg #[.int .u8 a,.int .u64 b,.int .u32 c,.int .u32 d,.string x,.string y])).run Tryz.prog w=.ok true w:=by
 have hS:Tryz.prog.underlying 27=some (.struct (Tryz.prog.fieldsOf 27)):=by kernel_rfl
 have hp:Tryz.prog.stoodInHeld 27=false:=by kernel_rfl
 have hS2:Tryz.prog.underlying 25=some (.struct (Tryz.prog.fieldsOf 25)):=by kernel_rfl
 have hp2:Tryz.prog.stoodInHeld 25=false:=by kernel_rfl
 rw[show(10000:Nat)=9999+1 from rfl,run_equalIn_agg w 9999 27 _ _ hS hp];simp only[Program.fieldsOf,Tryz.underlying27];simp[go_sem,Op.eqFields]
theorem eqPG(a b c d:Int)(x y:ByteArray)(w:World):(binOp .eql 27 (.agg #[.int .u8 a,.int .u64 b,.int .u32 c,.int .u32 d,.string x,.string y]) (.agg #[.int .u8 a,.int .u64 b,.int .u32 c,.int .u32 d,.string x,.string y])).run Tryz.prog w=.ok (.bool true) w:=by
 rw[run_eql_struct,eqPG0];rfl
theorem xd7(op:BinOp)(x y:Operand)(xs ys:Array Value)(w:World):(eqGuard op 27 x y (.agg xs) (.agg ys)).run Tryz.prog w=.ok () w:=run_eqGuard_agg w op 27 x y xs ys (by kernel_rfl)
theorem gG0:gG pg0:=⟨by decide,by decide,by decide,by decide,by decide⟩
set_option maxRecDepth 100000 in
theorem kp8(w:World):Calls Tryz.prog 47 #[] w fun e w'=>e=.returned (.bool true)∧Below w.heap.size w w':=by
 have kp:∀w,Calls Tryz.prog 25 #[.agg #[.int .u8 0,.int .u64 0,.int .u32 0,.int .u32 0,.string ⟨#[]⟩,.string ⟨#[]⟩]] w fun e w'=>e=.returned (.tuple #[.string (toB (gprintL crcN pg0)),.agg #[.int .i64 0,.int .i64 0]])∧Below w.heap.size w w':=fun w=>kv7 pg0 w gG0 (by decide)
 have hl:(gprintL crcN pg0).length=27:=jg7 crcN pg0;have hsz:(toB (gprintL crcN pg0)).size=27:=by rw[szB,hl]
 have hrest:Rest (⟨toB (gprintL crcN pg0),0,0,0,0⟩:RS) (gprintL crcN pg0 ++ []):=⟨rfl,Nat.zero_le _,by rw[jf5,List.drop_zero,List.append_nil]⟩;have hback:=(qk9 crcN kc7 pg0 gG0 hrest).2;have kg:∀w r,InX w r ⟨toB (gprintL crcN pg0),0,0,0,0⟩→Calls Tryz.prog 72 #[.pointer (some ⟨r,0,none⟩)] w fun e w'=>e=.returned (.tuple #[.agg #[.int .u8 0,.int .u64 0,.int .u32 0,.int .u32 0,.string ⟨#[]⟩,.string ⟨#[]⟩],.bool true])∧w.grownBy w' (some r):=fun w r h=>by
  have:=vc0 w r ⟨toB (gprintL crcN pg0),0,0,0,0⟩ h ⟨Nat.zero_le _,by show(toB (gprintL crcN pg0)).size≤_;rw[hsz];decide,Nat.zero_le _⟩;rw[hback]at this;exact this.mono fun e w' q=>⟨q.1,q.2.2⟩
 generalize toB (gprintL crcN pg0)=S at *;have kr:=fun w=>jn2 S w
 have ka:=fun w=>qw3 w
 have kb:∀w,Calls Tryz.prog 16 #[.agg #[.int .i64 0,.int .i64 0]] w fun e w'=>e=.returned (.bool false)∧Below w.heap.size w w':=fun w=>jb8 0 0 w
 have ko:∀w,Calls Tryz.prog 62 #[.agg #[.int .u8 0,.int .u64 0,.int .u32 0,.int .u32 0,.string ⟨#[3,255]⟩,.string ⟨#[]⟩]] w fun e w'=>e=.returned (.bool true)∧Below w.heap.size w w':=fun w=>qm0 ⟨0,0,0,0,⟨#[3,255]⟩,⟨#[]⟩⟩ w (by decide)
 have hs27:(S.size:Int)=27:=by omega
 have e1:=fun w=>eqPG 0 0 0 0 ⟨#[]⟩ ⟨#[]⟩ w
 have g1:=fun x y w=>xd7 .eql x y #[.int .u8 0,.int .u64 0,.int .u32 0,.int .u32 0,.string ⟨#[]⟩,.string ⟨#[]⟩] #[.int .u8 0,.int .u64 0,.int .u32 0,.int .u32 0,.string ⟨#[]⟩,.string ⟨#[]⟩] w
 have hB:=Below.refl w.heap.size w;have KP:=Lib.hid kp;have KG:=Lib.hid kg;have KR:=Lib.hid kr;have KA:=Lib.hid ka;have KB:=Lib.hid kb;have KO:=Lib.hid ko;clear kp kg kr ka kb ko;clear hl hsz hrest hback
 go_enter Tryz.func47,Tryz.ntmps47
 go_wp2_with (first
  | (go_at_call 25;refine(KP.out _).mono ?_;rintro e w1 ⟨rfl,hb1⟩;have hbk:=bal hb1 (.cells #[.int .i64 0,.int .i64 0] 54);have KF:=Lib.hid (Live.fresh w1 #[.int .i64 0,.int .i64 0] 54 0 _ rfl);have KF1:=Lib.hid (Live.fresh w1 #[.int .i64 0,.int .i64 0] 54 1 _ rfl))
  | (go_at_call 40;refine(KR.out _).mono ?_;rintro e w2 ⟨r,rfl,hr,hi,hb2⟩)
  | (go_at_call 72;refine(KG.out _ _ hi).mono ?_;rintro e w3 ⟨rfl,hg3⟩;have hb3:=jd5 hb2 hg3 hr;have hb4:=bal hb3 (.cells #[.int .u8 0,.int .u64 0,.int .u32 0,.int .u32 0,.string ⟨#[]⟩,.string ⟨#[]⟩] 27))
  | (go_at_call 86;refine(KA.out _).mono ?_;rintro e w5 ⟨rfl,hb5⟩;have hb6:=bt hb4 hb5;obtain⟨f0,_⟩:=KF.out.keep hb6;obtain⟨f1,_⟩:=KF1.out.keep hb6)
  | (go_at_call 16;refine(KB.out _).mono ?_;rintro e w7 ⟨rfl,hb7⟩;have hbp:=bt hb5 hb7;obtain⟨p0,p1,p2,p3,p4,p5⟩:=gvL (blkP (heap_alloc_new w3 (.cells #[.int .u8 0,.int .u64 0,.int .u32 0,.int .u32 0,.string ⟨#[]⟩,.string ⟨#[]⟩] 27)) hbp))
  | (go_at_call 62;refine(KO.out _).mono ?_;rintro e w8 ⟨rfl,hb8⟩)
  | fail)
 go_ret
 exact⟨rfl,bt hbk (bt (bt hb6 hb7) hb8)⟩
def p18:PG:=⟨0,0,0,0,⟨#[2,1]⟩,⟨#[97,98,99]⟩⟩
theorem ex18a:pagesO 0 (lacesB [⟨#[97,98]⟩,⟨#[99]⟩]).length 0 (lacesB [⟨#[97,98]⟩,⟨#[99]⟩]) (([⟨#[97,98]⟩,⟨#[99]⟩]:List ByteArray).map bl).flatten false = [p18]:=by
 have h1:lacesB [⟨#[97,98]⟩,⟨#[99]⟩] = [2,1]:=by decide
 rw[h1]
 rfl
theorem ex18b:joinG [p18] 0 false [] []=([[97,98],[99]],0,0):=by decide
theorem ex18c:laceL 255 = [255,0]:=by decide
set_option maxRecDepth 100000 in
theorem qw2(w:World):Calls Tryz.prog 48 #[] w fun e w'=>e=.returned (.bool true)∧Below w.heap.size w w':=by
 have kp:∀(X:World),Calls Tryz.prog 28 #[.agg #[.int .u8 0,.int .u64 0,.int .u32 0,.int .u32 0],.slice (some ⟨X.heap.size,0,none⟩) 2 2] (X.alloc (.cells #[.string ⟨#[97,98]⟩,.string ⟨#[99]⟩] 9)) (PPost [p18] (X.alloc (.cells #[.string ⟨#[97,98]⟩,.string ⟨#[99]⟩] 9))):=fun X=>by
  have h1:=jm3 (n:=2) (s:=1) (heap_alloc_new X (.cells #[.string ⟨#[97,98]⟩,.string ⟨#[99]⟩] 9)) rfl (by decide);have:=ks6 0 0 [⟨#[97,98]⟩,⟨#[99]⟩] X.heap.size _ _ h1 (by simp) (by show 2≤_;decide) (fun t ht=>by
   simp only[List.mem_cons,List.not_mem_nil,or_false]at ht;rcases ht with rfl|rfl<;>decide) (by decide) (by decide)
  rw[ex18a]at this;exact this
 unfold PPost at kp;have kj:∀(v:Value) (w:World),Row w v 1 (gcells [p18])→Calls Tryz.prog 63 #[v] w (JoinPost ([[97,98],[99]],0,0) w):=fun v w h=>by
  have:=kn7 v [p18] w h (by decide) (fun p hp=>by simp at hp;subst hp;exact⟨by decide,by decide⟩);rw[ex18b]at this;exact this
 unfold JoinPost at kj;simp only[List.length_cons,List.length_nil,Nat.zero_add,Nat.reduceAdd]at kp kj;have ka:=fun w=>kp8 w
 have kb:∀w,Calls Tryz.prog 16 #[.agg #[.int .i64 0,.int .i64 0]] w fun e w'=>e=.returned (.bool false)∧Below w.heap.size w w':=fun w=>jb8 0 0 w
 have kl:∀w,Calls Tryz.prog 59 #[.int .i64 255] w fun e w'=>e=.returned (.string ⟨#[255,0]⟩)∧Below w.heap.size w w':=fun w=>by
  have:=qm2 255 w (by decide);rw[ex18c]at this;exact this
 have HS1:((⟨#[255,0]⟩:ByteArray).toList==(⟨#[255,0]⟩:ByteArray).toList)=true:=by simp
 have KP:=Lib.hid kp;have KJ:=Lib.hid kj;have KA:=Lib.hid ka;have KB:=Lib.hid kb;have KL:=Lib.hid kl;clear kp kj ka kb kl
 go_enter Tryz.func48,Tryz.ntmps48
 go_wp2_with (first
  | (go_at_call 28;refine(KP.out _).mono ?_;rintro e w1 ⟨hb1,v1,rfl,ho1⟩;obtain⟨g1,c1,rfl,_⟩:=jc9 ho1 (by decide);have hbk:=bt (bal (Below.refl w.heap.size w) _) hb1)
  | (go_at_call 63;refine(KJ.out _ _ (jc2 ho1)).mono ?_;rintro e w2 ⟨hb2,v2,rfl,ho2⟩;obtain⟨g2,c2,rfl,_⟩:=jc9 ho2 (by decide);have hb3:=bal hb2 (.cells #[.int .i64 0,.int .i64 0] 54);have hx2:=bal (Below.refl w2.heap.size w2) (.cells #[.int .i64 0,.int .i64 0] 54);have KF:=Lib.hid (Live.fresh w2 #[.int .i64 0,.int .i64 0] 54 0 _ rfl);have KF1:=Lib.hid (Live.fresh w2 #[.int .i64 0,.int .i64 0] 54 1 _ rfl))
  | (go_at_call 47;refine(KA.out _).mono ?_;rintro e w5 ⟨rfl,hb5⟩)
  | (go_at_call 59;refine(KL.out _).mono ?_;rintro e w6 ⟨rfl,hb6⟩;have hb7:=bt hb5 hb6;obtain⟨f0,_⟩:=KF.out.keep hb7;obtain⟨f1,_⟩:=KF1.out.keep hb7;obtain⟨gg,eg,z0,z1,z2,z3,z4,z5⟩:=jk0 (jb2 ho1 (bt hb3 hb7)) (by decide);simp only[Option.some.injEq,Addr.mk.injEq,and_true]at eg;subst eg;obtain⟨g3,eg,y0,y1⟩:=kg2 (jb2 ho2 (bt hx2 hb7)) (by decide);simp only[Option.some.injEq,Addr.mk.injEq,and_true]at eg;subst eg;rw[show p18.la=⟨#[2,1]⟩ from rfl]at z4;rw[show toB [99]=⟨#[99]⟩ from rfl]at y1)
  | (go_at_call 16;refine(KB.out _).mono ?_;rintro e w8 ⟨rfl,hb8⟩)
  | fail)
 go_ret
 exact⟨rfl,bt hbk (bt (bt hb3 hb7) hb8)⟩
def f20:PG:=⟨2,0,0,0,⟨#[7]⟩,⟨#[1,118,111,114,98,105,115]⟩⟩
def oxS:OS:=⟨f20,⟨⟨#[]⟩,0,[]⟩,⟨#[5,118,111,114,98,105,115]⟩,[]⟩
def m20:PG:=⟨0,0,0,1,⟨#[16,7]⟩,⟨#[3,118,111,114,98,105,115,0,0,0,0,0,0,0,0,1,5,118,111,114,98,105,115]⟩⟩
theorem ex20a:ocheckM oxS=(0,0):=by decide +kernel
theorem ex20b:midO oxS = [m20]:=by kernel_rfl
theorem ex20c:opagesL oxS = [f20,m20]:=by
 unfold opagesL;rw[ex20b]
 rfl
theorem ex20d:okO oxS:=⟨⟨⟨by decide,by decide,by decide,by decide,by decide⟩,(fun p hp=>by cases hp)⟩,ex20a,by decide,by decide,(fun n hn=>by cases hn),by rw[ex20c];decide⟩
theorem ex20e:smOS oxS:=⟨⟨by decide,by decide,(fun n hn=>by cases hn)⟩,⟨by decide,by decide⟩,by decide,by decide,(fun p hp=>by cases hp)⟩
theorem ex20f:bigO oxS:=⟨by decide,by decide,by decide⟩
theorem row_at1{w:World}{B g cap:Nat}(h:w.ownsRow B 27 6 (.slice (some ⟨g,0,none⟩) 2 cap) 2 (gcells [f20,m20])):w.cell? ⟨g,10,none⟩=some (.string ⟨#[16,7]⟩):=by
 obtain⟨g',c',hv,_,_,_,hc⟩:=jn7 h (by decide);simp only[Value.slice.injEq,Option.some.injEq,Addr.mk.injEq,and_true]at hv;obtain⟨rfl,_⟩:=hv;have:=hc 10 _ rfl;rw[Nat.zero_add]at this;exact this
set_option maxRecDepth 100000 in
theorem qw0(w:World)(hT:TW w):Calls Tryz.prog 19 #[] w fun e w'=>e=.returned (.bool true)∧Below w.heap.size w w':=by
 have kpg:∀w',TW w'→Calls Tryz.prog 9 #[.agg #[.int .u8 2,.int .u64 0,.int .u32 0,.int .u32 0,.string ⟨#[7]⟩,.string ⟨#[1,118,111,114,98,105,115]⟩,.string ⟨#[]⟩,.int .i64 0,.slice none 0 0,.string ⟨#[5,118,111,114,98,105,115]⟩,.slice none 0 0]] w' (OPagesPost [f20,m20] (0,0) w'):=fun w' hT'=>by
  have:=js1 (.slice none 0 0) (.slice none 0 0) oxS w' hT' ⟨Row.nil _,Row.nil _⟩ ex20e ex20d ex20f;rw[ex20c]at this;exact this
 unfold OPagesPost at kpg;have kpr:∀w',TW w'→Calls Tryz.prog 8 #[.agg #[.int .u8 2,.int .u64 0,.int .u32 0,.int .u32 0,.string ⟨#[7]⟩,.string ⟨#[1,118,111,114,98,105,115]⟩,.string ⟨#[]⟩,.int .i64 0,.slice none 0 0,.string ⟨#[5,118,111,114,98,105,115]⟩,.slice none 0 0]] w' fun e w''=>e=.returned (.tuple #[.string (toB (oprintL crcN oxS)),.agg #[.int .i64 0,.int .i64 0]])∧Below w'.heap.size w' w'':=fun w' hT'=>km2 (.slice none 0 0) (.slice none 0 0) oxS w' hT' ⟨Row.nil _,Row.nil _⟩ ex20e ex20d ex20f
 have hsz:(toB (oprintL crcN oxS)).size≤1048576:=by
  have h:=jp0 (opagesL oxS) (jk3 ex20d);rw[ex20c]at h;rw[szB];unfold oprintL;rw[ex20c];simp only[List.length_cons,List.length_nil]at h;omega
 have kpa:∀w',TW w'→Calls Tryz.prog 14 #[.string (toB (oprintL crcN oxS)),.agg #[.int .i64 0,.int .i64 0,.bool false,.int .i64 0]] w' fun e w''=>Below w'.heap.size w' w''∧∃(an:Option Addr) (cn:Nat) (as_:Option Addr) (cs_:Nat),e=.returned (.tuple #[.agg #[.int .u8 2,.int .u64 0,.int .u32 0,.int .u32 0,.string ⟨#[7]⟩,.string ⟨#[1,118,111,114,98,105,115]⟩,.string ⟨#[]⟩,.int .i64 7,.slice an 0 cn,.string ⟨#[5,118,111,114,98,105,115]⟩,.slice as_ 0 cs_],.agg #[.int .i64 0,.int .i64 0]]):=fun w' hT'=>by
  have:=kt7 (toB (oprintL crcN oxS)) 0 0 0 false w' hT' hsz;rw[show toB (oprintL crcN oxS)=⟨(oprintL crcN oxS).toArray⟩ from rfl,qh7 crcN (RM 0 false) kc7 (xj5 0 false) oxS ex20d]at this;refine this.mono ?_;rintro e w'' ⟨hb,vn,vs,he,h1,h2⟩;obtain⟨an,cn,rfl⟩:=jb4 h1;obtain⟨as_,cs_,rfl⟩:=jb4 h2;exact⟨hb,an,cn,as_,cs_,he⟩
 generalize toB (oprintL crcN oxS)=PS at *;have k17:=fun w=>kp8 w
 have k18:=fun w=>qw2 w
 have k19:=fun w hT=>qw1 w hT
 have kb:∀w,Calls Tryz.prog 16 #[.agg #[.int .i64 0,.int .i64 0]] w fun e w'=>e=.returned (.bool false)∧Below w.heap.size w w':=fun w=>jb8 0 0 w
 have e1:=fun w=>eqPG 2 0 0 0 ⟨#[7]⟩ ⟨#[1,118,111,114,98,105,115]⟩ w
 have g1:=fun x y w=>xd7 .eql x y #[.int .u8 2,.int .u64 0,.int .u32 0,.int .u32 0,.string ⟨#[7]⟩,.string ⟨#[1,118,111,114,98,105,115]⟩] #[.int .u8 2,.int .u64 0,.int .u32 0,.int .u32 0,.string ⟨#[7]⟩,.string ⟨#[1,118,111,114,98,105,115]⟩] w
 have hb0:=bal (Below.refl w.heap.size w) (.cells #[.int .u8 2,.int .u64 0,.int .u32 0,.int .u32 0,.string ⟨#[7]⟩,.string ⟨#[1,118,111,114,98,105,115]⟩,.string ⟨#[]⟩,.int .i64 0,.slice none 0 0,.string ⟨#[5,118,111,114,98,105,115]⟩,.slice none 0 0] 36);have KS:=Lib.hid (heap_alloc_new w (.cells #[.int .u8 2,.int .u64 0,.int .u32 0,.int .u32 0,.string ⟨#[7]⟩,.string ⟨#[1,118,111,114,98,105,115]⟩,.string ⟨#[]⟩,.int .i64 0,.slice none 0 0,.string ⟨#[5,118,111,114,98,105,115]⟩,.slice none 0 0] 36));simp only[List.length_cons,List.length_nil,Nat.zero_add,Nat.reduceAdd]at kpg;have KPG:=Lib.hid kpg;have KPR:=Lib.hid kpr;have KPA:=Lib.hid kpa;have K17:=Lib.hid k17;have K18:=Lib.hid k18;have K19:=Lib.hid k19;have KB:=Lib.hid kb;have HT:=Lib.hid hT;have HB0:=Lib.hid hb0;clear kpg kpr kpa k17 k18 k19 kb hT hb0;clear hsz
 go_enter Tryz.func19,Tryz.ntmps19
 go_wp2_with (first
  | (go_at_call 9;refine(KPG.out _ (HT.out.bel HB0.out)).mono ?_;rintro e w1 ⟨hb1,v1,rfl,ho1⟩;obtain⟨g1,c1,rfl,_⟩:=jc9 ho1 (by decide);have hx1:=bal hb1 (.cells #[.int .i64 0,.int .i64 0] 54);have hw1:=bal (Below.refl w1.heap.size w1) (.cells #[.int .i64 0,.int .i64 0] 54);have F10:=Lib.hid (Live.fresh w1 #[.int .i64 0,.int .i64 0] 54 0 _ rfl);have F11:=Lib.hid (Live.fresh w1 #[.int .i64 0,.int .i64 0] 54 1 _ rfl);obtain⟨s0,_⟩:=jb0 (blkP KS.out hx1) 0 _ rfl;obtain⟨s1,_⟩:=jb0 (blkP KS.out hx1) 1 _ rfl;obtain⟨s2,_⟩:=jb0 (blkP KS.out hx1) 2 _ rfl;obtain⟨s3,_⟩:=jb0 (blkP KS.out hx1) 3 _ rfl;obtain⟨s4,_⟩:=jb0 (blkP KS.out hx1) 4 _ rfl;obtain⟨s5,_⟩:=jb0 (blkP KS.out hx1) 5 _ rfl;obtain⟨s6,_⟩:=jb0 (blkP KS.out hx1) 6 _ rfl;obtain⟨s7,_⟩:=jb0 (blkP KS.out hx1) 7 _ rfl;obtain⟨s8,_⟩:=jb0 (blkP KS.out hx1) 8 _ rfl;obtain⟨s9,_⟩:=jb0 (blkP KS.out hx1) 9 _ rfl;obtain⟨s10,_⟩:=jb0 (blkP KS.out hx1) 10 _ rfl)
  | (go_at_call 8;refine(KPR.out _ (HT.out.bel (bt HB0.out hx1))).mono ?_;rintro e w2 ⟨rfl,hb2⟩;have hx2:=bal hb2 (.cells #[.int .i64 0,.int .i64 0] 54);have F20:=Lib.hid (Live.fresh w2 #[.int .i64 0,.int .i64 0] 54 0 _ rfl);have F21:=Lib.hid (Live.fresh w2 #[.int .i64 0,.int .i64 0] 54 1 _ rfl))
  | (go_at_call 14;refine(KPA.out _ (HT.out.bel (bt (bt HB0.out hx1) hx2))).mono ?_;rintro e w3 ⟨hb3,an,cn,as_,cs_,rfl⟩;have hx3:=bal (bal hb3 (.cells #[.int .u8 2,.int .u64 0,.int .u32 0,.int .u32 0,.string ⟨#[7]⟩,.string ⟨#[1,118,111,114,98,105,115]⟩,.string ⟨#[]⟩,.int .i64 7,.slice an 0 cn,.string ⟨#[5,118,111,114,98,105,115]⟩,.slice as_ 0 cs_] 36)) (.cells #[.int .i64 0,.int .i64 0] 54);have KT:=Lib.hid (blkP (heap_alloc_new w3 (.cells #[.int .u8 2,.int .u64 0,.int .u32 0,.int .u32 0,.string ⟨#[7]⟩,.string ⟨#[1,118,111,114,98,105,115]⟩,.string ⟨#[]⟩,.int .i64 7,.slice an 0 cn,.string ⟨#[5,118,111,114,98,105,115]⟩,.slice as_ 0 cs_] 36)) (bal (Below.refl _ _) (.cells #[.int .i64 0,.int .i64 0] 54)));have F3:=heap_alloc_new (w3.alloc (.cells #[.int .u8 2,.int .u64 0,.int .u32 0,.int .u32 0,.string ⟨#[7]⟩,.string ⟨#[1,118,111,114,98,105,115]⟩,.string ⟨#[]⟩,.int .i64 7,.slice an 0 cn,.string ⟨#[5,118,111,114,98,105,115]⟩,.slice as_ 0 cs_] 36)) (.cells #[.int .i64 0,.int .i64 0] 54);rw[World.size_alloc]at F3;have HF3:=Lib.hid F3;clear F3;have hall:=bt (bt (bt HB0.out hx1) hx2) hx3)
  | (go_at_call 47;refine(K17.out _).mono ?_;rintro e w5 ⟨rfl,hb5⟩)
  | (go_at_call 48;refine(K18.out _).mono ?_;rintro e w6 ⟨rfl,hb6⟩;have hb56:=bt hb5 hb6)
  | (go_at_call 49;refine(K19.out _ (HT.out.bel (bt hall hb56))).mono ?_;rintro e w7 ⟨rfl,hb7⟩;have hbz:=bt hb56 hb7;have hbz2:=bt hx3 hbz;have hbz1:=bt hx2 hbz2;obtain⟨f10,_⟩:=F10.out.keep hbz1;obtain⟨f11,_⟩:=F11.out.keep hbz1;obtain⟨f20_,_⟩:=F20.out.keep hbz2;obtain⟨f21_,_⟩:=F21.out.keep hbz2;obtain⟨f30,_⟩:=jb0 (blkP HF3.out hbz) 0 _ rfl;obtain⟨f31,_⟩:=jb0 (blkP HF3.out hbz) 1 _ rfl;have z4:=(row_at1 (jb2 ho1 (bt hw1 hbz1))))
  | (go_at_call 16;refine(KB.out _).mono ?_;rintro e w8 ⟨rfl,hb8⟩;replace hbz:=bt hbz hb8;replace hbz2:=bt hx3 hbz;replace hbz1:=bt hx2 hbz2;clear f20_ f21_ f30 f31 hb8;obtain⟨f20_,_⟩:=F20.out.keep hbz2;obtain⟨f21_,_⟩:=F21.out.keep hbz2;obtain⟨f30,_⟩:=jb0 (blkP HF3.out hbz) 0 _ rfl;obtain⟨f31,_⟩:=jb0 (blkP HF3.out hbz) 1 _ rfl;obtain⟨t0,_⟩:=jb0 (blkP KT.out hbz) 0 _ rfl;obtain⟨t1,_⟩:=jb0 (blkP KT.out hbz) 1 _ rfl;obtain⟨t2,_⟩:=jb0 (blkP KT.out hbz) 2 _ rfl;obtain⟨t3,_⟩:=jb0 (blkP KT.out hbz) 3 _ rfl;obtain⟨t4,_⟩:=jb0 (blkP KT.out hbz) 4 _ rfl;obtain⟨t5,_⟩:=jb0 (blkP KT.out hbz) 5 _ rfl;obtain⟨t9,_⟩:=jb0 (blkP KT.out hbz) 9 _ rfl;obtain⟨s0,_⟩:=jb0 (blkP KS.out (bt hx1 hbz1)) 0 _ rfl;obtain⟨s1,_⟩:=jb0 (blkP KS.out (bt hx1 hbz1)) 1 _ rfl;obtain⟨s2,_⟩:=jb0 (blkP KS.out (bt hx1 hbz1)) 2 _ rfl;obtain⟨s3,_⟩:=jb0 (blkP KS.out (bt hx1 hbz1)) 3 _ rfl;obtain⟨s4,_⟩:=jb0 (blkP KS.out (bt hx1 hbz1)) 4 _ rfl;obtain⟨s5,_⟩:=jb0 (blkP KS.out (bt hx1 hbz1)) 5 _ rfl;obtain⟨s9,_⟩:=jb0 (blkP KS.out (bt hx1 hbz1)) 9 _ rfl)
  | fail)
 go_ret
 exact⟨rfl,bt hall hbz⟩
end Go.Proofs.YtagjkmkmphamoaaGreatDoor
