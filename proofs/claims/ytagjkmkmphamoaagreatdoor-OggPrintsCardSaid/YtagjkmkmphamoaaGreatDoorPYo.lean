/- Yo -/
import Derived.Test.YtagjkmkmphamoaaGreatDoorPC2
set_option linter.all false
set_option maxHeartbeats 16000000
namespace Go.Proofs.YtagjkmkmphamoaaGreatDoor.oggPrints
open Go.RowKit
theorem kp5{w:World}{b:Nat}{t:TypeId}{x0 x1:Value}(h:w.heap[b]?=some (.cells #[x0,x1] t (0,0))):w.cell? ⟨b,0,none⟩=some x0∧w.cell? ⟨b,1,none⟩=some x1:=⟨(jb0 h 0 _ rfl).1,(jb0 h 1 _ rfl).1⟩
theorem jd7{w:World}{b:Nat}{t:TypeId}{x0 x1 x2 x3 x4 x5 x6 x7 x8 x9 x10:Value}(h:w.heap[b]?=some (.cells #[x0,x1,x2,x3,x4,x5,x6,x7,x8,x9,x10] t (0,0))):w.cell? ⟨b,0,none⟩=some x0∧w.cell? ⟨b,1,none⟩=some x1∧w.cell? ⟨b,2,none⟩=some x2∧w.cell? ⟨b,3,none⟩=some x3∧w.cell? ⟨b,4,none⟩=some x4∧w.cell? ⟨b,5,none⟩=some x5∧w.cell? ⟨b,6,none⟩=some x6∧w.cell? ⟨b,7,none⟩=some x7∧w.cell? ⟨b,8,none⟩=some x8∧w.cell? ⟨b,9,none⟩=some x9∧w.cell? ⟨b,10,none⟩=some x10:=⟨(jb0 h 0 _ rfl).1,(jb0 h 1 _ rfl).1,(jb0 h 2 _ rfl).1,(jb0 h 3 _ rfl).1,(jb0 h 4 _ rfl).1,(jb0 h 5 _ rfl).1,(jb0 h 6 _ rfl).1,(jb0 h 7 _ rfl).1,(jb0 h 8 _ rfl).1,(jb0 h 9 _ rfl).1,(jb0 h 10 _ rfl).1⟩
theorem jh7{w:World}{b:Nat}{t:TypeId}{x0 x1 x2 x3 x4 x5 x6 x7 x8 x9 x10 x11:Value}(h:w.heap[b]?=some (.cells #[x0,x1,x2,x3,x4,x5,x6,x7,x8,x9,x10,x11] t (0,0))):w.cell? ⟨b,0,none⟩=some x0∧w.cell? ⟨b,1,none⟩=some x1∧w.cell? ⟨b,2,none⟩=some x2∧w.cell? ⟨b,3,none⟩=some x3∧w.cell? ⟨b,4,none⟩=some x4∧w.cell? ⟨b,5,none⟩=some x5∧w.cell? ⟨b,6,none⟩=some x6∧w.cell? ⟨b,7,none⟩=some x7∧w.cell? ⟨b,8,none⟩=some x8∧w.cell? ⟨b,9,none⟩=some x9∧w.cell? ⟨b,10,none⟩=some x10∧w.cell? ⟨b,11,none⟩=some x11:=⟨(jb0 h 0 _ rfl).1,(jb0 h 1 _ rfl).1,(jb0 h 2 _ rfl).1,(jb0 h 3 _ rfl).1,(jb0 h 4 _ rfl).1,(jb0 h 5 _ rfl).1,(jb0 h 6 _ rfl).1,(jb0 h 7 _ rfl).1,(jb0 h 8 _ rfl).1,(jb0 h 9 _ rfl).1,(jb0 h 10 _ rfl).1,(jb0 h 11 _ rfl).1⟩
theorem jq7(w:World)(hT:TW w):Calls Tryz.prog 5 #[] w fun e w'=>e=.returned (.bool true)∧Below w.heap.size w w':=by
 have KA:=Lib.hid qw0
 go_enter Tryz.func5,Tryz.ntmps5
 go_wp2_with (go_at_call 19;refine(KA.out _ hT).mono ?_;rintro e w1 ⟨rfl,hb1⟩)
 go_ret
 exact⟨rfl,hb1⟩
theorem kw3(c a:Int)(w:World):Calls Tryz.prog 10 #[.int .i64 c,.int .i64 a] w fun e w'=>e=.returned (.agg #[.int .i64 c,.int .i64 a])∧Below w.heap.size w w':=by
 go_enter Tryz.func10,Tryz.ntmps10
 go_wp2
 have l0:=Live.fresh w #[.int .i64 0,.int .i64 0] 54 0 _ rfl;have l1:=Live.fresh w #[.int .i64 0,.int .i64 0] 54 1 _ rfl;obtain⟨a1,a2⟩:=l0;obtain⟨a3,a4⟩:=l1;refine bodyPost_ret (v:=.agg #[.int .i64 c,.int .i64 a]) (by simp[results,Tryz.results10,go_sem,a1,a2,a3,a4]) rfl ?_;exact⟨rfl,bal (Below.refl w.heap.size w) _⟩
theorem qj0(a b c d:Int)(w:World):(binOp .neq 54 (.agg #[.int .i64 a,.int .i64 b]) (.agg #[.int .i64 c,.int .i64 d])).run Tryz.prog w=.ok (.bool (!(a==c&&b==d))) w:=by
 rw[run_neq_struct,vc3];rfl
set_option maxRecDepth 100000 in
theorem vp7(vn vs:Value)(s:OS)(fb:Int)(g:Bool)(w0:okOS s)(w:World)(R0:OsRow w vn vs s)(hT:TW w)(hlt:lightO s=false):
 Calls Tryz.prog 3 #[osV vn vs s,.int .i64 fb,.bool g] w fun e w'=>e=.returned (.bool true)∧Below w.heap.size w w':=by
 have KA:=Lib.hid jq7;have k1:∀w',Below w.heap.size w w'→Calls Tryz.prog 4 #[osV vn vs s] w' fun e w''=>e=.returned (.bool false)∧Below w'.heap.size w' w'':=fun w' hb=>by
  have:=kb5 vn vs s w' (R0.keep hb) w0;rw[hlt]at this;exact this
 unfold osV at k1 ⊢;obtain⟨⟨an,cn,rfl,hcn⟩,⟨as_,cs_,rfl,hcs⟩⟩:=R0;obtain⟨W,hW⟩:∃W,W=w.alloc (.cells #[.int .u8 s.first.fl.toNat,.int .u64 s.first.po,.int .u32 s.first.se,.int .u32 s.first.nu,.string s.first.la,.string s.first.bo,.string s.b.vt,.int .i64 s.b.vs,.slice an s.b.ns.length cn,.string s.setup,.slice as_ s.sound.length cs_] 36):=⟨_,rfl⟩;have P:Below w.heap.size w W:=by rw[hW];exact bal (Below.refl _ _) _
 have HS:Hid (W.heap[w.heap.size]?=some (.cells #[.int .u8 s.first.fl.toNat,.int .u64 s.first.po,.int .u32 s.first.se,.int .u32 s.first.nu,.string s.first.la,.string s.first.bo,.string s.b.vt,.int .i64 s.b.vs,.slice an s.b.ns.length cn,.string s.setup,.slice as_ s.sound.length cs_] 36 (0,0))):=Lib.hid (by rw[hW];exact heap_alloc_new _ _);obtain⟨c0,c1,c2,c3,c4,c5,c6,c7,c8,c9,c10⟩:=jd7 HS.out;have HT:=Lib.hid hT;clear hcn hcs w0 hT hlt;have K1:=Lib.hid k1;clear k1
 go_enter Tryz.func3,Tryz.ntmps3
 go_wp2_with fail
 rw[←hW];clear hW
 go_wp2_with (first
  | (go_at_call 4;(with_reducible refine(K1.out _ P).mono ?_);rintro e1 w1 ⟨rfl,hb1⟩;replace HS:=Lib.hid (blkP HS.out hb1);clear c0 c1 c2 c3 c4 c5 c6 c7 c8 c9 c10;obtain⟨c0,c1,c2,c3,c4,c5,c6,c7,c8,c9,c10⟩:=jd7 HS.out;replace P:=bt P hb1)
  | (go_at_call 5;(with_reducible refine(KA.out _ (HT.out.bel P)).mono ?_);rintro e9 w9 ⟨rfl,hb9⟩)
  | fail)
 go_ret
 exact⟨rfl,bt P hb9⟩
set_option maxRecDepth 100000 in
theorem walk_bad(vn vs:Value)(s:OS)(fb:Int)(g:Bool)(w0:okOS s)(w:World)(R0:OsRow w vn vs s)(hT:TW w)(hlt:lightO s=true)(hc:(ocheckM s).1≠0):
 Calls Tryz.prog 3 #[osV vn vs s,.int .i64 fb,.bool g] w fun e w'=>e=.returned (.bool true)∧Below w.heap.size w w':=by
 have KA:=Lib.hid jq7;have hsm:=qj4 hlt;have hg1:okG s.first:=w0.1.1
 have hg2:∀p∈s.sound,okG p:=fun p hp=>(w0.2.2.2.2 p hp).1
 have hnl:s.b.ns.length≤1000000:=by
  have h:=hlt;unfold lightO at h;simp only[Bool.and_eq_true]at h;have:=(js3 h.2).2.1;omega
 have kof:∀w',Below w.heap.size w w'→Calls Tryz.prog 6 #[osV vn vs s] w' fun e w''=>∃va na,e=.returned (.agg (roC va na s))∧RoRow w'' va na s∧Below w'.heap.size w' w'':=fun w' hb=>(qr9 vn vs s w' (R0.keep hb) hsm hnl hg1 hg2).mono fun e w'' ⟨a,b,h1,h2,h3,h4⟩=>⟨a,b,h1,⟨jc2 h2,jc2 h3⟩,h4⟩
 have krc:∀w' va na,RoRow w' va na s→Calls Tryz.prog 7 #[.agg (roC va na s)] w' (RCPost (ocheckM s) w'):=fun w' va na hr=>kd5 va na s w' hr hsm
 have kck:∀w',Below w.heap.size w w'→Calls Tryz.prog 11 #[osV vn vs s] w' (CheckPost (ocheckM s) w'):=fun w' hb=>jt3 vn vs s w' (hT.bel hb) (R0.keep hb) hsm
 have k1:∀w',Below w.heap.size w w'→Calls Tryz.prog 4 #[osV vn vs s] w' fun e w''=>e=.returned (.bool true)∧Below w'.heap.size w' w'':=fun w' hb=>by
  have:=kb5 vn vs s w' (R0.keep hb) w0;rw[hlt]at this;exact this
 have kpr:∀w',Below w.heap.size w w'→Calls Tryz.prog 8 #[osV vn vs s] w' (OPrintPost ⟨#[]⟩ (ocheckM s) w'):=fun w' hb=>vg8 vn vs s w' (hT.bel hb) (R0.keep hb) hsm hc
 have kpg:∀w',Below w.heap.size w w'→Calls Tryz.prog 9 #[osV vn vs s] w' (OPagesPost [] (ocheckM s) w'):=fun w' hb=>kt8 vn vs s w' (hT.bel hb) (R0.keep hb) hsm hc
 unfold OPrintPost at kpr;unfold OPagesPost at kpg;unfold RCPost at krc;unfold CheckPost at kck;generalize ocheckM s=C at *;obtain⟨ce,ca⟩:=C;simp only at hc kpr kpg krc kck;have kN:∀w,(binOp .neq 54 (.agg #[.int .i64 ce,.int .i64 ca]) (.agg #[.int .i64 ce,.int .i64 ca])).run Tryz.prog w=.ok (.bool false) w:=fun w=>by have:=qj0 ce ca ce ca w;simpa using this
 have kG:=fun x y w=>jj6 .neq x y #[.int .i64 ce,.int .i64 ca] #[.int .i64 ce,.int .i64 ca] w
 have hcb:(ce != 0)=true:=by simpa using hc
 have KF:=Lib.hid kw3;unfold osV at k1 kof kpr kpg kck ⊢;obtain⟨⟨an,cn,rfl,hcn⟩,⟨as_,cs_,rfl,hcs⟩⟩:=R0;obtain⟨W,hW⟩:∃W,W=w.alloc (.cells #[.int .u8 s.first.fl.toNat,.int .u64 s.first.po,.int .u32 s.first.se,.int .u32 s.first.nu,.string s.first.la,.string s.first.bo,.string s.b.vt,.int .i64 s.b.vs,.slice an s.b.ns.length cn,.string s.setup,.slice as_ s.sound.length cs_] 36):=⟨_,rfl⟩;have P:Below w.heap.size w W:=by rw[hW];exact bal (Below.refl _ _) _
 have HS:Hid (W.heap[w.heap.size]?=some (.cells #[.int .u8 s.first.fl.toNat,.int .u64 s.first.po,.int .u32 s.first.se,.int .u32 s.first.nu,.string s.first.la,.string s.first.bo,.string s.b.vt,.int .i64 s.b.vs,.slice an s.b.ns.length cn,.string s.setup,.slice as_ s.sound.length cs_] 36 (0,0))):=Lib.hid (by rw[hW];exact heap_alloc_new _ _);obtain⟨c0,c1,c2,c3,c4,c5,c6,c7,c8,c9,c10⟩:=jd7 HS.out;have HT:=Lib.hid hT;have HK:=Lib.hid kN;have HG2:=Lib.hid kG;clear hcn hcs w0 hT hlt hsm hg1 hg2 hnl kN kG;have K1:=Lib.hid k1;have KOF:=Lib.hid kof;have KRC:=Lib.hid krc;have KCK:=Lib.hid kck;have KPR:=Lib.hid kpr;have KPG:=Lib.hid kpg;clear k1 kof krc kck kpr kpg
 go_enter Tryz.func3,Tryz.ntmps3
 go_wp2_with fail
 rw[←hW];clear hW
 go_wp2_with (first
  | (go_at_call 4;(with_reducible refine(K1.out _ P).mono ?_);rintro e1 w1 ⟨rfl,hb1⟩;replace HS:=Lib.hid (blkP HS.out hb1);clear c0 c1 c2 c3 c4 c5 c6 c7 c8 c9 c10;obtain⟨c0,c1,c2,c3,c4,c5,c6,c7,c8,c9,c10⟩:=jd7 HS.out;replace P:=bt P hb1)
  | (go_at_call 6;(with_reducible refine(KOF.out _ P).mono ?_);rintro e2 w2 ⟨vn2,vs2,rfl,hr2,hb2⟩;obtain⟨⟨na,nc,rfl,q1⟩,⟨sa,sc,rfl,q2⟩⟩:=hr2;have hba:=bal hb2 (.cells #[.int .i64 s.first.fl.toNat,.int .u64 s.first.po,.int .u64 s.first.se,.int .u64 s.first.nu,.string s.first.la,.string s.first.bo,.string ⟨#[]⟩,.string s.b.vt,.int .i64 s.b.vs,.slice na s.b.ns.length nc,.string s.setup,.slice sa s.sound.length sc] 48);have HM:=Lib.hid (heap_alloc_new w2 (.cells #[.int .i64 s.first.fl.toNat,.int .u64 s.first.po,.int .u64 s.first.se,.int .u64 s.first.nu,.string s.first.la,.string s.first.bo,.string ⟨#[]⟩,.string s.b.vt,.int .i64 s.b.vs,.slice na s.b.ns.length nc,.string s.setup,.slice sa s.sound.length sc] 48));obtain⟨m0,m1,m2,m3,m4,m5,m6,m7,m8,m9,m10,m11⟩:=jh7 HM.out;have HR:Hid (RoRow (w2.alloc (.cells #[.int .i64 s.first.fl.toNat,.int .u64 s.first.po,.int .u64 s.first.se,.int .u64 s.first.nu,.string s.first.la,.string s.first.bo,.string ⟨#[]⟩,.string s.b.vt,.int .i64 s.b.vs,.slice na s.b.ns.length nc,.string s.setup,.slice sa s.sound.length sc] 48)) (.slice na s.b.ns.length nc) (.slice sa s.sound.length sc) s):=Lib.hid (RoRow.keep ⟨⟨_,_,rfl,q1⟩,⟨_,_,rfl,q2⟩⟩ (bal (Below.refl _ _) _));clear q1 q2;replace HS:=Lib.hid (blkP HS.out hba);clear c0 c1 c2 c3 c4 c5 c6 c7 c8 c9 c10;obtain⟨c0,c1,c2,c3,c4,c5,c6,c7,c8,c9,c10⟩:=jd7 HS.out;replace P:=bt P hba;clear hb2 hba)
  | (go_at_call 7;(with_reducible refine(KRC.out _ _ _ HR.out).mono ?_);rintro e3 w3 ⟨rfl,hb3⟩;replace HS:=Lib.hid (blkP HS.out hb3);clear c0 c1 c2 c3 c4 c5 c6 c7 c8 c9 c10;obtain⟨c0,c1,c2,c3,c4,c5,c6,c7,c8,c9,c10⟩:=jd7 HS.out;replace HM:=Lib.hid (blkP HM.out hb3);clear m0 m1 m2 m3 m4 m5 m6 m7 m8 m9 m10 m11;obtain⟨m0,m1,m2,m3,m4,m5,m6,m7,m8,m9,m10,m11⟩:=jh7 HM.out;replace HR:=Lib.hid (HR.out.keep hb3);replace P:=bt P hb3;clear hb3)
  | (go_at_call 8;(with_reducible refine(KPR.out _ P).mono ?_);rintro e4 w4 ⟨rfl,hb4⟩;have hbb:=bal hb4 (.cells #[.int .i64 ce,.int .i64 ca] 54);have HF:=Lib.hid (heap_alloc_new w4 (.cells #[.int .i64 ce,.int .i64 ca] 54));obtain⟨f0,f1⟩:=kp5 HF.out;replace HS:=Lib.hid (blkP HS.out hbb);clear c0 c1 c2 c3 c4 c5 c6 c7 c8 c9 c10;obtain⟨c0,c1,c2,c3,c4,c5,c6,c7,c8,c9,c10⟩:=jd7 HS.out;replace HM:=Lib.hid (blkP HM.out hbb);clear m0 m1 m2 m3 m4 m5 m6 m7 m8 m9 m10 m11;obtain⟨m0,m1,m2,m3,m4,m5,m6,m7,m8,m9,m10,m11⟩:=jh7 HM.out;replace HR:=Lib.hid (HR.out.keep hbb);replace P:=bt P hbb;clear hb4 hbb)
  | (go_at_call 9;(with_reducible refine(KPG.out _ P).mono ?_);rintro e5 w5 ⟨hb5,v5,rfl,ho5⟩;obtain⟨pa,pc,rfl⟩:=jb4 ho5;have hbc:=bal hb5 (.cells #[.int .i64 ce,.int .i64 ca] 54);have HG:=Lib.hid (heap_alloc_new w5 (.cells #[.int .i64 ce,.int .i64 ca] 54));obtain⟨g0,g1⟩:=kp5 HG.out;replace HS:=Lib.hid (blkP HS.out hbc);clear c0 c1 c2 c3 c4 c5 c6 c7 c8 c9 c10;obtain⟨c0,c1,c2,c3,c4,c5,c6,c7,c8,c9,c10⟩:=jd7 HS.out;replace HM:=Lib.hid (blkP HM.out hbc);clear m0 m1 m2 m3 m4 m5 m6 m7 m8 m9 m10 m11;obtain⟨m0,m1,m2,m3,m4,m5,m6,m7,m8,m9,m10,m11⟩:=jh7 HM.out;replace HR:=Lib.hid (HR.out.keep hbc);replace HF:=Lib.hid (blkP HF.out hbc);clear f0 f1;obtain⟨f0,f1⟩:=kp5 HF.out;replace P:=bt P hbc;clear hb5 hbc)
  | fail)
 have kN:=HK.out;have kG:=HG2.out;generalize hWX:w5.alloc (.cells #[.int .i64 ce,.int .i64 ca] 54)=WX at *;clear hWX;have y0:=fun x:Grown WX=>x.cell c0
 have y1:=fun x:Grown WX=>x.cell c1
 have y2:=fun x:Grown WX=>x.cell c2
 have y3:=fun x:Grown WX=>x.cell c3
 have y4:=fun x:Grown WX=>x.cell c4
 have y5:=fun x:Grown WX=>x.cell c5
 have y6:=fun x:Grown WX=>x.cell c6
 have y7:=fun x:Grown WX=>x.cell c7
 have y8:=fun x:Grown WX=>x.cell c8
 have y9:=fun x:Grown WX=>x.cell c9
 have y10:=fun x:Grown WX=>x.cell c10
 have y11:=fun x:Grown WX=>x.cell f0
 have y12:=fun x:Grown WX=>x.cell f1
 have y13:=fun x:Grown WX=>x.cell g0
 have y14:=fun x:Grown WX=>x.cell g1
 have kck2:∀x:Grown WX,Calls Tryz.prog 11 #[.agg #[.int .u8 s.first.fl.toNat,.int .u64 s.first.po,.int .u32 s.first.se,.int .u32 s.first.nu,.string s.first.la,.string s.first.bo,.string s.b.vt,.int .i64 s.b.vs,.slice an s.b.ns.length cn,.string s.setup,.slice as_ s.sound.length cs_]] x.wd fun e w''=>e=.returned (.agg #[.int .i64 ce,.int .i64 ca])∧Below x.wd.heap.size x.wd w'':=fun x=>KCK.out _ (bt P x.bel)
 have KCK2:=Lib.hid kck2;clear kck2;refine wp_region_grown (by kernel_rfl) (by kernel_rfl) ?_
 repeat (first|go_big_quiet_step ((first|(go_at_call 10;with_reducible exact Calls.grown_of (KF.out _ _ _))|(go_at_call 11;exact Calls.grown_of (KCK2.out _))))|quiet_step ((first|(go_at_call 10;with_reducible exact Calls.grown_of (KF.out _ _ _))|(go_at_call 11;exact Calls.grown_of (KCK2.out _)))))
 refine wpQuiet_nil ?_;intro _ hw';obtain⟨xg,rfl⟩:=hw';have hbg:=xg.bel;clear y0 y1 y2 y3 y4 y5 y6 y7 y8 y9 y10 y11 y12 y13 y14 KCK2 kN kG;replace P:=bt P hbg
 go_wp2_with (first
  | (go_at_call 5;(with_reducible refine(KA.out _ (HT.out.bel P)).mono ?_);rintro e9 w9 ⟨rfl,hb9⟩)
  | fail)
 go_ret
 exact⟨rfl,bt P hb9⟩
set_option maxRecDepth 100000 in
theorem vp6(vn vs:Value)(s:OS)(fb:Int)(g:Bool)(w0:okOS s)(w:World)(R0:OsRow w vn vs s)(hT:TW w)(hlt:lightO s=true)(hc:(ocheckM s).1=0):
 Calls Tryz.prog 3 #[osV vn vs s,.int .i64 fb,.bool g] w fun e w'=>e=.returned (.bool true)∧Below w.heap.size w w':=by
 have KA:=Lib.hid jq7;have hsm:=qj4 hlt;have hg1:okG s.first:=w0.1.1
 have hg2:∀p∈s.sound,okG p:=fun p hp=>(w0.2.2.2.2 p hp).1
 have hnl:s.b.ns.length≤1000000:=by
  have h:=hlt;unfold lightO at h;simp only[Bool.and_eq_true]at h;have:=(js3 h.2).2.1;omega
 have kof:∀w',Below w.heap.size w w'→Calls Tryz.prog 6 #[osV vn vs s] w' fun e w''=>∃va na,e=.returned (.agg (roC va na s))∧RoRow w'' va na s∧Below w'.heap.size w' w'':=fun w' hb=>(qr9 vn vs s w' (R0.keep hb) hsm hnl hg1 hg2).mono fun e w'' ⟨a,b,h1,h2,h3,h4⟩=>⟨a,b,h1,⟨jc2 h2,jc2 h3⟩,h4⟩
 have krc:∀w' va na,RoRow w' va na s→Calls Tryz.prog 7 #[.agg (roC va na s)] w' (RCPost (ocheckM s) w'):=fun w' va na hr=>kd5 va na s w' hr hsm
 have kck:∀w',Below w.heap.size w w'→Calls Tryz.prog 11 #[osV vn vs s] w' (CheckPost (ocheckM s) w'):=fun w' hb=>jt3 vn vs s w' (hT.bel hb) (R0.keep hb) hsm
 have k1:∀w',Below w.heap.size w w'→Calls Tryz.prog 4 #[osV vn vs s] w' fun e w''=>e=.returned (.bool true)∧Below w'.heap.size w' w'':=fun w' hb=>by
  have:=kb5 vn vs s w' (R0.keep hb) w0;rw[hlt]at this;exact this
 have hcz:=qs0 hc;obtain⟨G,hps⟩:=xb6 hlt w0 hcz;have hbb:s.b.ns.length≤1000∧(∀n∈s.b.ns,n.name.size≤1000∧n.text.size≤1000)∧s.b.vt.size≤1000:=by
  have h:=hlt;unfold lightO at h;simp only[Bool.and_eq_true]at h;obtain⟨_,b2,b3,b4⟩:=js3 h.2;exact⟨by omega,fun n hn=>by have:=b4 n hn;omega,by omega⟩
 have kpr:∀w',Below w.heap.size w w'→Calls Tryz.prog 8 #[osV vn vs s] w' (OPrintPost (toB (oprintL crcN s)) (0,0) w'):=fun w' hb=>km2 vn vs s w' (hT.bel hb) (R0.keep hb) hsm G.ok G.big
 have kpg:∀w',Below w.heap.size w w'→Calls Tryz.prog 9 #[osV vn vs s] w' (OPagesPost (opagesL s) (0,0) w'):=fun w' hb=>js1 vn vs s w' (hT.bel hb) (R0.keep hb) hsm G.ok G.big
 have krp:∀w' va na,RoRow w' va na s→Calls Tryz.prog 12 #[.agg (roC va na s)] w' (RGPost (opagesL s) w'):=fun w' va na hr=>kd4 va na s w' hr hsm G.ok G.big hbb.1 hbb.2.1 hbb.2.2
 have krr:∀w' va na,RoRow w' va na s→Calls Tryz.prog 15 #[.agg (roC va na s)] w' fun e w''=>e=.returned (.string (toB (oprintL crcN s)))∧Below w'.heap.size w' w'':=fun w' va na hr=>qg2 va na s w' hr hsm G.ok G.big hbb.1 hbb.2.1 hbb.2.2
 have H:=osm_back G;have kp:∀w',TW w'→Calls Tryz.prog 14 #[.string (toB (oprintL crcN s)),.agg #[.int .i64 0,.int .i64 fb,.bool g,.int .i64 0]] w' (OParsePost (backO s,0,0) w'):=fun w' hT'=>by
  have:=kt7 (toB (oprintL crcN s)) 0 fb 0 g w' hT' (by rw[szB];exact hps);rw[show toB (oprintL crcN s)=⟨(oprintL crcN s).toArray⟩ from rfl,qh7 crcN (RM fb g) kc7 (xj5 fb g) s G.ok]at this;exact this
 obtain⟨h,hh⟩:∃h,h=backO s:=⟨_,rfl⟩;have hhl:likeOS h s:=by rw[hh];exact like_sym (xb5 s)
 rw[←hh]at kp H;have kof2:∀w' vn vs,OsRow w' vn vs h→Calls Tryz.prog 6 #[osV vn vs h] w' fun e w''=>∃va na,e=.returned (.agg (roC va na h))∧RoRow w'' va na h∧Below w'.heap.size w' w'':=fun w' vn vs hr=>
  (qr9 vn vs h w' hr H.sm H.nl H.g1 H.g2).mono fun e w'' ⟨a,b,h1,h2,h3,h4⟩=>⟨a,b,h1,⟨jc2 h2,jc2 h3⟩,h4⟩
 have kse:∀w' va na vb nb,RoRow w' va na h→RoRow w' vb nb s→Calls Tryz.prog 17 #[.agg (roC va na h),.agg (roC vb nb s),.bool false] w' fun e w''=>e=.returned (.bool true)∧Below w'.heap.size w' w'':=fun w' va na vb nb h1 h2=>
  vw5 va na vb nb h s w' h1 h2 hhl H.nl H.sl
 have hpo:∀(i:Nat) (p:PG),(opagesL s)[i]?=some p→okG p:=fun i p hp=>by
  have:=(vx5 G.ok i p hp).1;exact⟨this.2.2.1,this.2.2.2.1,this.2.2.2.2⟩
 rw[hcz]at krc kck;unfold OPrintPost at kpr;unfold OPagesPost at kpg;unfold RGPost at krp;unfold RCPost at krc;unfold CheckPost at kck;unfold OParsePost at kp;have hN0:(opagesL s).length≤1048576:=G.ok.2.2.2.2.2;generalize opagesL s=LL at *;obtain⟨N,hN⟩:∃N,N=LL.length:=⟨_,rfl⟩;rw[←hN]at kpg krp hN0;generalize toB (oprintL crcN s)=PS at *;have HSS:(PS.toList==PS.toList)=true:=by simp
 simp only at kpr kpg krc kck kp;have kN:∀w,(binOp .neq 54 (.agg #[.int .i64 0,.int .i64 0]) (.agg #[.int .i64 0,.int .i64 0])).run Tryz.prog w=.ok (.bool false) w:=fun w=>by have:=qj0 0 0 0 0 w;simpa using this
 have kG:=fun x y w=>jj6 .neq x y #[.int .i64 0,.int .i64 0] #[.int .i64 0,.int .i64 0] w
 have KF:=Lib.hid kw3;unfold osV at k1 kof kpr kpg kck kof2 kp ⊢;obtain⟨⟨an,cn,rfl,hcn⟩,⟨as_,cs_,rfl,hcs⟩⟩:=R0;obtain⟨W,hW⟩:∃W,W=w.alloc (.cells #[.int .u8 s.first.fl.toNat,.int .u64 s.first.po,.int .u32 s.first.se,.int .u32 s.first.nu,.string s.first.la,.string s.first.bo,.string s.b.vt,.int .i64 s.b.vs,.slice an s.b.ns.length cn,.string s.setup,.slice as_ s.sound.length cs_] 36):=⟨_,rfl⟩;have P:Below w.heap.size w W:=by rw[hW];exact bal (Below.refl _ _) _
 have HS:Hid (W.heap[w.heap.size]?=some (.cells #[.int .u8 s.first.fl.toNat,.int .u64 s.first.po,.int .u32 s.first.se,.int .u32 s.first.nu,.string s.first.la,.string s.first.bo,.string s.b.vt,.int .i64 s.b.vs,.slice an s.b.ns.length cn,.string s.setup,.slice as_ s.sound.length cs_] 36 (0,0))):=Lib.hid (by rw[hW];exact heap_alloc_new _ _);obtain⟨c0,c1,c2,c3,c4,c5,c6,c7,c8,c9,c10⟩:=jd7 HS.out;have HT:=Lib.hid hT;have HK:=Lib.hid kN;have HG2:=Lib.hid kG;have HNL:=Lib.hid hN;have HPO:=Lib.hid hpo;clear hcn hcs w0 hT hlt hsm hg1 hg2 hnl kN kG hN hpo hbb hcz hc G H hps hh hhl;have K1:=Lib.hid k1;have KOF:=Lib.hid kof;have KRC:=Lib.hid krc;have KCK:=Lib.hid kck;have KPR:=Lib.hid kpr;have KPG:=Lib.hid kpg;have KRP:=Lib.hid krp;have KRR:=Lib.hid krr;have KP:=Lib.hid kp;have KOF2:=Lib.hid kof2;have KSE:=Lib.hid kse;clear k1 kof krc kck kpr kpg krp krr kp kof2 kse
 go_enter Tryz.func3,Tryz.ntmps3
 go_wp2_with fail
 rw[←hW];clear hW
 go_wp2_with (first
  | (go_at_call 4;(with_reducible refine(K1.out _ P).mono ?_);rintro e1 w1 ⟨rfl,hb1⟩;replace HS:=Lib.hid (blkP HS.out hb1);clear c0 c1 c2 c3 c4 c5 c6 c7 c8 c9 c10;obtain⟨c0,c1,c2,c3,c4,c5,c6,c7,c8,c9,c10⟩:=jd7 HS.out;replace P:=bt P hb1)
  | (go_at_call 6;(with_reducible refine(KOF.out _ P).mono ?_);rintro e2 w2 ⟨vn2,vs2,rfl,hr2,hb2⟩;obtain⟨⟨na,nc,rfl,q1⟩,⟨sa,sc,rfl,q2⟩⟩:=hr2;have hba:=bal hb2 (.cells #[.int .i64 s.first.fl.toNat,.int .u64 s.first.po,.int .u64 s.first.se,.int .u64 s.first.nu,.string s.first.la,.string s.first.bo,.string ⟨#[]⟩,.string s.b.vt,.int .i64 s.b.vs,.slice na s.b.ns.length nc,.string s.setup,.slice sa s.sound.length sc] 48);have HM:=Lib.hid (heap_alloc_new w2 (.cells #[.int .i64 s.first.fl.toNat,.int .u64 s.first.po,.int .u64 s.first.se,.int .u64 s.first.nu,.string s.first.la,.string s.first.bo,.string ⟨#[]⟩,.string s.b.vt,.int .i64 s.b.vs,.slice na s.b.ns.length nc,.string s.setup,.slice sa s.sound.length sc] 48));obtain⟨m0,m1,m2,m3,m4,m5,m6,m7,m8,m9,m10,m11⟩:=jh7 HM.out;have HR:Hid (RoRow (w2.alloc (.cells #[.int .i64 s.first.fl.toNat,.int .u64 s.first.po,.int .u64 s.first.se,.int .u64 s.first.nu,.string s.first.la,.string s.first.bo,.string ⟨#[]⟩,.string s.b.vt,.int .i64 s.b.vs,.slice na s.b.ns.length nc,.string s.setup,.slice sa s.sound.length sc] 48)) (.slice na s.b.ns.length nc) (.slice sa s.sound.length sc) s):=Lib.hid (RoRow.keep ⟨⟨_,_,rfl,q1⟩,⟨_,_,rfl,q2⟩⟩ (bal (Below.refl _ _) _));clear q1 q2;replace HS:=Lib.hid (blkP HS.out hba);clear c0 c1 c2 c3 c4 c5 c6 c7 c8 c9 c10;obtain⟨c0,c1,c2,c3,c4,c5,c6,c7,c8,c9,c10⟩:=jd7 HS.out;replace P:=bt P hba;clear hb2 hba)
  | (go_at_call 7;(with_reducible refine(KRC.out _ _ _ HR.out).mono ?_);rintro e3 w3 ⟨rfl,hb3⟩;replace HS:=Lib.hid (blkP HS.out hb3);clear c0 c1 c2 c3 c4 c5 c6 c7 c8 c9 c10;obtain⟨c0,c1,c2,c3,c4,c5,c6,c7,c8,c9,c10⟩:=jd7 HS.out;replace HM:=Lib.hid (blkP HM.out hb3);clear m0 m1 m2 m3 m4 m5 m6 m7 m8 m9 m10 m11;obtain⟨m0,m1,m2,m3,m4,m5,m6,m7,m8,m9,m10,m11⟩:=jh7 HM.out;replace HR:=Lib.hid (HR.out.keep hb3);replace P:=bt P hb3;clear hb3)
  | (go_at_call 8;(with_reducible refine(KPR.out _ P).mono ?_);rintro e4 w4 ⟨rfl,hb4⟩;have hbb:=bal hb4 (.cells #[.int .i64 0,.int .i64 0] 54);have HF:=Lib.hid (heap_alloc_new w4 (.cells #[.int .i64 0,.int .i64 0] 54));obtain⟨f0,f1⟩:=kp5 HF.out;replace HS:=Lib.hid (blkP HS.out hbb);clear c0 c1 c2 c3 c4 c5 c6 c7 c8 c9 c10;obtain⟨c0,c1,c2,c3,c4,c5,c6,c7,c8,c9,c10⟩:=jd7 HS.out;replace HM:=Lib.hid (blkP HM.out hbb);clear m0 m1 m2 m3 m4 m5 m6 m7 m8 m9 m10 m11;obtain⟨m0,m1,m2,m3,m4,m5,m6,m7,m8,m9,m10,m11⟩:=jh7 HM.out;replace HR:=Lib.hid (HR.out.keep hbb);replace P:=bt P hbb;clear hb4 hbb)
  | (go_at_call 9;(with_reducible refine(KPG.out _ P).mono ?_);rintro e5 w5 ⟨hb5,v5,rfl,ho5⟩;obtain⟨pa,pc,rfl⟩:=jb4 ho5;have hbc:=bal hb5 (.cells #[.int .i64 0,.int .i64 0] 54);have HG:=Lib.hid (heap_alloc_new w5 (.cells #[.int .i64 0,.int .i64 0] 54));obtain⟨g0,g1⟩:=kp5 HG.out;replace HS:=Lib.hid (blkP HS.out hbc);clear c0 c1 c2 c3 c4 c5 c6 c7 c8 c9 c10;obtain⟨c0,c1,c2,c3,c4,c5,c6,c7,c8,c9,c10⟩:=jd7 HS.out;replace HM:=Lib.hid (blkP HM.out hbc);clear m0 m1 m2 m3 m4 m5 m6 m7 m8 m9 m10 m11;obtain⟨m0,m1,m2,m3,m4,m5,m6,m7,m8,m9,m10,m11⟩:=jh7 HM.out;replace HR:=Lib.hid (HR.out.keep hbc);replace HF:=Lib.hid (blkP HF.out hbc);clear f0 f1;obtain⟨f0,f1⟩:=kp5 HF.out;replace P:=bt P hbc;have HL:Hid (Row _ (.slice pa N pc) N (gcells LL)):=Lib.hid ((jc2 ho5).keep (bal (Below.refl _ _) (.cells #[.int .i64 0,.int .i64 0] 54)));clear hb5 hbc)
  | fail)
 have kN:=HK.out;have kG:=HG2.out;generalize hWX:w5.alloc (.cells #[.int .i64 0,.int .i64 0] 54)=WX at *;clear hWX;have y0:=fun x:Grown WX=>x.cell c0
 have y1:=fun x:Grown WX=>x.cell c1
 have y2:=fun x:Grown WX=>x.cell c2
 have y3:=fun x:Grown WX=>x.cell c3
 have y4:=fun x:Grown WX=>x.cell c4
 have y5:=fun x:Grown WX=>x.cell c5
 have y6:=fun x:Grown WX=>x.cell c6
 have y7:=fun x:Grown WX=>x.cell c7
 have y8:=fun x:Grown WX=>x.cell c8
 have y9:=fun x:Grown WX=>x.cell c9
 have y10:=fun x:Grown WX=>x.cell c10
 have y11:=fun x:Grown WX=>x.cell f0
 have y12:=fun x:Grown WX=>x.cell f1
 have y13:=fun x:Grown WX=>x.cell g0
 have y14:=fun x:Grown WX=>x.cell g1
 have kck2:∀x:Grown WX,Calls Tryz.prog 11 #[.agg #[.int .u8 s.first.fl.toNat,.int .u64 s.first.po,.int .u32 s.first.se,.int .u32 s.first.nu,.string s.first.la,.string s.first.bo,.string s.b.vt,.int .i64 s.b.vs,.slice an s.b.ns.length cn,.string s.setup,.slice as_ s.sound.length cs_]] x.wd fun e w''=>e=.returned (.agg #[.int .i64 0,.int .i64 0])∧Below x.wd.heap.size x.wd w'':=fun x=>KCK.out _ (bt P x.bel)
 have KCK2:=Lib.hid kck2;clear kck2;refine wp_region_grown (by kernel_rfl) (by kernel_rfl) ?_
 repeat (first|go_big_quiet_step ((first|(go_at_call 10;with_reducible exact Calls.grown_of (KF.out _ _ _))|(go_at_call 11;exact Calls.grown_of (KCK2.out _))))|quiet_step ((first|(go_at_call 10;with_reducible exact Calls.grown_of (KF.out _ _ _))|(go_at_call 11;exact Calls.grown_of (KCK2.out _)))))
 refine wpQuiet_nil ?_;intro _ hw';obtain⟨xg,rfl⟩:=hw';have hbg:=xg.bel;clear y0 y1 y2 y3 y4 y5 y6 y7 y8 y9 y10 y11 y12 y13 y14 KCK2 kN kG;replace P:=bt P hbg;replace HS:=Lib.hid (blkP HS.out hbg);replace HM:=Lib.hid (blkP HM.out hbg);replace HR:=Lib.hid (HR.out.keep hbg);replace HL:=Lib.hid (HL.out.keep hbg);clear c0 c1 c2 c3 c4 c5 c6 c7 c8 c9 c10;clear m0 m1 m2 m3 m4 m5 m6 m7 m8 m9 m10 m11;clear f0 f1 g0 g1 HF HG hbg;generalize xg.wd=W6 at *;clear xg;obtain⟨c0,c1,c2,c3,c4,c5,c6,c7,c8,c9,c10⟩:=jd7 HS.out;obtain⟨m0,m1,m2,m3,m4,m5,m6,m7,m8,m9,m10,m11⟩:=jh7 HM.out
 go_wp2_with (first
  | (go_at_call 12;(with_reducible refine(KRP.out _ _ _ HR.out).mono ?_);rintro e6 w6 ⟨hb6,v6,rfl,ho6⟩;obtain⟨ra,rc,rfl⟩:=jb4 ho6;have HW:=Lib.hid (jc2 ho6);replace HL:=Lib.hid (HL.out.keep hb6);replace HS:=Lib.hid (blkP HS.out hb6);clear c0 c1 c2 c3 c4 c5 c6 c7 c8 c9 c10;obtain⟨c0,c1,c2,c3,c4,c5,c6,c7,c8,c9,c10⟩:=jd7 HS.out;replace HM:=Lib.hid (blkP HM.out hb6);clear m0 m1 m2 m3 m4 m5 m6 m7 m8 m9 m10 m11;obtain⟨m0,m1,m2,m3,m4,m5,m6,m7,m8,m9,m10,m11⟩:=jh7 HM.out;replace HR:=Lib.hid (HR.out.keep hb6);replace P:=bt P hb6;clear hb6 ho6)
  | fail)
 obtain⟨pa',pc',eL,hcl⟩:=HL.out;simp only[Value.slice.injEq]at eL;obtain⟨rfl,_,rfl⟩:=eL;obtain⟨ra',rc',eW,hcw⟩:=HW.out;simp only[Value.slice.injEq]at eW;obtain⟨rfl,_,rfl⟩:=eW;have HCL:=Lib.hid hcl;have HCW:=Lib.hid hcw;clear hcl hcw c0 c1 c2 c3 c4 c5 c6 c7 c8 c9 c10 m0 m1 m2 m3 m4 m5 m6 m7 m8 m9 m10 m11
 go_loopw [76] (fun iv wr=>∃i:Nat,iv=.int .i64 (i:Int)∧i≤N∧Hid (Below w6.heap.size w6 wr)) (fun iv _=>N-(intOf iv).toNat)
 case atStart=>exact⟨0,rfl,Nat.zero_le _,Lib.hid (Below.refl _ _)⟩
 case round=>
  obtain⟨i,rfl,hi,HB⟩:=hrel;by_cases hlt:i<N
  · obtain⟨p,hp⟩:=jb6 LL i (by rw[←HNL.out];exact hlt)
    obtain⟨gg,og,rfl,d0,d1,d2,d3,d4,d5⟩:=g_at HCL.out i p hp;obtain⟨gh,oh,rfl,e0,e1,e2,e3,e4,e5⟩:=qq9 HCW.out i p hp;replace d0:=kc HB.out d0;replace d1:=kc HB.out d1;replace d2:=kc HB.out d2;replace d3:=kc HB.out d3;replace d4:=kc HB.out d4;replace d5:=kc HB.out d5;replace e0:=kc HB.out e0;replace e1:=kc HB.out e1;replace e2:=kc HB.out e2;replace e3:=kc HB.out e3;replace e4:=kc HB.out e4;replace e5:=kc HB.out e5;have ko:=fun w=>qt5 p w (HPO.out i p hp)
    unfold gV at ko;obtain⟨fl,po,se,nu,la,bo⟩:=p;simp only at d0 d1 d2 d3 d4 d5 e0 e1 e2 e3 e4 e5 ko;generalize (fl.toNat:Int)=f at *;have kNP:=fun w=>neqRG f po se nu la bo w
    have kGP:=fun x y w=>qt2 .neq x y #[.int .i64 f,.int .u64 po,.int .u64 se,.int .u64 nu,.string la,.string bo] #[.int .i64 f,.int .u64 po,.int .u64 se,.int .u64 nu,.string la,.string bo] w
    have m0:(0:Int)≤(i:Int):=by omega
    have m1:(i:Int)<(N:Int):=by omega
    have KO:=Lib.hid ko;clear hp ko
    go_wp2_with fail
    have y0:=fun x:Grown wr=>x.cell d0
    have y1:=fun x:Grown wr=>x.cell d1
    have y2:=fun x:Grown wr=>x.cell d2
    have y3:=fun x:Grown wr=>x.cell d3
    have y4:=fun x:Grown wr=>x.cell d4
    have y5:=fun x:Grown wr=>x.cell d5
    have y6:=fun x:Grown wr=>x.cell e0
    have y7:=fun x:Grown wr=>x.cell e1
    have y8:=fun x:Grown wr=>x.cell e2
    have y9:=fun x:Grown wr=>x.cell e3
    have y10:=fun x:Grown wr=>x.cell e4
    have y11:=fun x:Grown wr=>x.cell e5
    refine wp_region_grown (by kernel_rfl) (by kernel_rfl) ?_
    repeat (first|go_big_quiet_step ((go_at_call 13;exact Calls.grown_of (KO.out _)))|quiet_step ((go_at_call 13;exact Calls.grown_of (KO.out _))))
    refine wpQuiet_nil ?_;intro _ hw';obtain⟨xg,rfl⟩:=hw';have hbg:=bt HB.out xg.bel;clear y0 y1 y2 y3 y4 y5 y6 y7 y8 y9 y10 y11 kNP kGP
    go_wp2_with fail
    go_roundw
    case rel=>exact⟨i+1,by first|omega|go_num,by omega,Lib.hid hbg⟩
    case measure=>simp[intOf];omega
  · have m0:¬((i:Int)<(N:Int)):=by omega
    obtain⟨c0,c1,c2,c3,c4,c5,c6,c7,c8,c9,c10⟩:=jd7 HS.out;obtain⟨m0,m1,m2,m3,m4,m5,m6,m7,m8,m9,m10,m11⟩:=jh7 HM.out
    go_wp2_with (first
     | (go_at_call 14;(with_reducible refine(KP.out _ (HT.out.bel (bt P HB.out))).mono ?_);rintro e8 w8 ⟨hb8,vn3,vs3,rfl,q1,q2⟩;obtain⟨an3,cn3,rfl⟩:=jb4 q1;obtain⟨as3,cs3,rfl⟩:=jb4 q2)
     | fail)
    clear c0 c1 c2 c3 c4 c5 c6 c7 c8 c9 c10;clear m0 m1 m2 m3 m4 m5 m6 m7 m8 m9 m10 m11;obtain⟨W4,hW4⟩:∃W4,W4=(w8.alloc (.cells #[.int .u8 h.first.fl.toNat,.int .u64 h.first.po,.int .u32 h.first.se,.int .u32 h.first.nu,.string h.first.la,.string h.first.bo,.string h.b.vt,.int .i64 h.b.vs,.slice an3 h.b.ns.length cn3,.string h.setup,.slice as3 h.sound.length cs3] 36)).alloc (.cells #[.int .i64 0,.int .i64 0] 54):=⟨_,rfl⟩;have h8:Below w8.heap.size w8 W4:=by rw[hW4];exact bal (bal (Below.refl _ _) _) _
    have h6:=bt HB.out (bt hb8 h8);have hbW:=bt P h6;have hTW:=HT.out.bel hbW;have hm:=HR.out.keep h6;have hh:OsRow W4 (.slice an3 h.b.ns.length cn3) (.slice as3 h.sound.length cs3) h:=OsRow.keep ⟨jc2 q1,jc2 q2⟩ h8;have hM:=blkP HM.out h6;have hd:W4.heap[w8.heap.size]?=some (.cells #[.int .u8 h.first.fl.toNat,.int .u64 h.first.po,.int .u32 h.first.se,.int .u32 h.first.nu,.string h.first.la,.string h.first.bo,.string h.b.vt,.int .i64 h.b.vs,.slice an3 h.b.ns.length cn3,.string h.setup,.slice as3 h.sound.length cs3] 36 (0,0)):=by rw[hW4];exact blkP (heap_alloc_new _ _) (bal (Below.refl _ _) _)
    have hg:W4.heap[w8.heap.size+1]?=some (.cells #[.int .i64 0,.int .i64 0] 54 (0,0)):=by
     rw[hW4];have:=heap_alloc_new (w8.alloc (.cells #[.int .u8 h.first.fl.toNat,.int .u64 h.first.po,.int .u32 h.first.se,.int .u32 h.first.nu,.string h.first.la,.string h.first.bo,.string h.b.vt,.int .i64 h.b.vs,.slice an3 h.b.ns.length cn3,.string h.setup,.slice as3 h.sound.length cs3] 36)) (.cells #[.int .i64 0,.int .i64 0] 54)
     rwa [World.size_alloc]at this
    obtain⟨m0,m1,m2,m3,m4,m5,m6,m7,m8,m9,m10,m11⟩:=jh7 hM;obtain⟨d0,d1,d2,d3,d4,d5,d6,d7,d8,d9,d10⟩:=jd7 hd;obtain⟨g0,g1⟩:=kp5 hg;rw[←hW4];clear hW4;have ka:∀w',Below W4.heap.size W4 w'→Calls Tryz.prog 5 #[] w' fun e w''=>e=.returned (.bool true)∧Below W4.heap.size W4 w'':=fun w' hb=>(KA.out w' (hTW.bel hb)).mono fun e w'' q=>⟨q.1,bt hb q.2⟩
    have kb:∀w',Below W4.heap.size W4 w'→Calls Tryz.prog 16 #[.agg #[.int .i64 0,.int .i64 0]] w' fun e w''=>e=.returned (.bool false)∧Below W4.heap.size W4 w'':=fun w' hb=>(jb8 0 0 w').mono fun e w'' q=>⟨q.1,bt hb q.2⟩
    have kr:∀w',Below W4.heap.size W4 w'→Calls Tryz.prog 15 #[.agg #[.int .i64 s.first.fl.toNat,.int .u64 s.first.po,.int .u64 s.first.se,.int .u64 s.first.nu,.string s.first.la,.string s.first.bo,.string ⟨#[]⟩,.string s.b.vt,.int .i64 s.b.vs,.slice na s.b.ns.length nc,.string s.setup,.slice sa s.sound.length sc]] w' fun e w''=>e=.returned (.string PS)∧Below W4.heap.size W4 w'':=fun w' hb=>(KRR.out w' _ _ (hm.keep hb)).mono fun e w'' q=>⟨q.1,bt hb q.2⟩
    have ko:∀w',Below W4.heap.size W4 w'→Calls Tryz.prog 6 #[.agg #[.int .u8 h.first.fl.toNat,.int .u64 h.first.po,.int .u32 h.first.se,.int .u32 h.first.nu,.string h.first.la,.string h.first.bo,.string h.b.vt,.int .i64 h.b.vs,.slice an3 h.b.ns.length cn3,.string h.setup,.slice as3 h.sound.length cs3]] w' fun e w''=>∃va nb,e=.returned (.agg #[.int .i64 h.first.fl.toNat,.int .u64 h.first.po,.int .u64 h.first.se,.int .u64 h.first.nu,.string h.first.la,.string h.first.bo,.string ⟨#[]⟩,.string h.b.vt,.int .i64 h.b.vs,va,.string h.setup,nb])∧RoRow w'' va nb h∧Below W4.heap.size W4 w'':=fun w' hb=>(KOF2.out w' _ _ (hh.keep hb)).mono fun e w'' ⟨va,nb,q1,q2,q3⟩=>⟨va,nb,q1,q2,bt hb q3⟩
    have ks:∀w' va nb,RoRow w' va nb h→Below W4.heap.size W4 w'→Calls Tryz.prog 17 #[.agg #[.int .i64 h.first.fl.toNat,.int .u64 h.first.po,.int .u64 h.first.se,.int .u64 h.first.nu,.string h.first.la,.string h.first.bo,.string ⟨#[]⟩,.string h.b.vt,.int .i64 h.b.vs,va,.string h.setup,nb],.agg #[.int .i64 s.first.fl.toNat,.int .u64 s.first.po,.int .u64 s.first.se,.int .u64 s.first.nu,.string s.first.la,.string s.first.bo,.string ⟨#[]⟩,.string s.b.vt,.int .i64 s.b.vs,.slice na s.b.ns.length nc,.string s.setup,.slice sa s.sound.length sc],.bool false] w' fun e w''=>e=.returned (.bool true)∧Below W4.heap.size W4 w'':=fun w' va nb q hb=>(KSE.out w' va nb _ _ q (hm.keep hb)).mono fun e w'' q=>⟨q.1,bt hb q.2⟩
    have KSA:Hid (∀wz,Below W4.heap.size W4 wz→wz.cell? ⟨w2.heap.size,0,none⟩=some (.int .i64 s.first.fl.toNat)∧wz.cell? ⟨w2.heap.size,1,none⟩=some (.int .u64 s.first.po)∧wz.cell? ⟨w2.heap.size,2,none⟩=some (.int .u64 s.first.se)∧wz.cell? ⟨w2.heap.size,3,none⟩=some (.int .u64 s.first.nu)∧wz.cell? ⟨w2.heap.size,4,none⟩=some (.string s.first.la)∧wz.cell? ⟨w2.heap.size,5,none⟩=some (.string s.first.bo)∧wz.cell? ⟨w2.heap.size,6,none⟩=some (.string ⟨#[]⟩)∧wz.cell? ⟨w2.heap.size,7,none⟩=some (.string s.b.vt)∧wz.cell? ⟨w2.heap.size,8,none⟩=some (.int .i64 s.b.vs)∧wz.cell? ⟨w2.heap.size,9,none⟩=some (.slice na s.b.ns.length nc)∧wz.cell? ⟨w2.heap.size,10,none⟩=some (.string s.setup)∧wz.cell? ⟨w2.heap.size,11,none⟩=some (.slice sa s.sound.length sc)∧wz.cell? ⟨w8.heap.size,0,none⟩=some (.int .u8 h.first.fl.toNat)∧wz.cell? ⟨w8.heap.size,1,none⟩=some (.int .u64 h.first.po)∧wz.cell? ⟨w8.heap.size,2,none⟩=some (.int .u32 h.first.se)∧wz.cell? ⟨w8.heap.size,3,none⟩=some (.int .u32 h.first.nu)∧wz.cell? ⟨w8.heap.size,4,none⟩=some (.string h.first.la)∧wz.cell? ⟨w8.heap.size,5,none⟩=some (.string h.first.bo)∧wz.cell? ⟨w8.heap.size,6,none⟩=some (.string h.b.vt)∧wz.cell? ⟨w8.heap.size,7,none⟩=some (.int .i64 h.b.vs)∧wz.cell? ⟨w8.heap.size,8,none⟩=some (.slice an3 h.b.ns.length cn3)∧wz.cell? ⟨w8.heap.size,9,none⟩=some (.string h.setup)∧wz.cell? ⟨w8.heap.size,10,none⟩=some (.slice as3 h.sound.length cs3)∧wz.cell? ⟨w8.heap.size+1,0,none⟩=some (.int .i64 0)∧wz.cell? ⟨w8.heap.size+1,1,none⟩=some (.int .i64 0)):=Lib.hid fun wz hb=>⟨kc hb m0,kc hb m1,kc hb m2,kc hb m3,kc hb m4,kc hb m5,kc hb m6,kc hb m7,kc hb m8,kc hb m9,kc hb m10,kc hb m11,kc hb d0,kc hb d1,kc hb d2,kc hb d3,kc hb d4,kc hb d5,kc hb d6,kc hb d7,kc hb d8,kc hb d9,kc hb d10,kc hb g0,kc hb g1⟩
    have hbk:=Below.refl W4.heap.size W4;clear h8 h6 hM hd hg hb8 q1 q2 KP KRR KOF2 KSE KA KF KRC KCK KPR KPG KRP KOF K1 HK HG2 HNL HPO HCL HCW HS HM HR HB HT hN0;have KA2:=Lib.hid ka;have KB:=Lib.hid kb;have KR:=Lib.hid kr;have KO:=Lib.hid ko;have KS:=Lib.hid ks;have HBW:=Lib.hid hbW;have HTW:=Lib.hid hTW;have HMM:=Lib.hid hm;have HHH:=Lib.hid hh;clear ka kb kr ko ks hbW hTW hm hh
    go_region_held3 (fun w'=>w'.cell? ⟨w2.heap.size,0,none⟩=some (.int .i64 s.first.fl.toNat)∧w'.cell? ⟨w2.heap.size,1,none⟩=some (.int .u64 s.first.po)∧w'.cell? ⟨w2.heap.size,2,none⟩=some (.int .u64 s.first.se)∧w'.cell? ⟨w2.heap.size,3,none⟩=some (.int .u64 s.first.nu)∧w'.cell? ⟨w2.heap.size,4,none⟩=some (.string s.first.la)∧w'.cell? ⟨w2.heap.size,5,none⟩=some (.string s.first.bo)∧w'.cell? ⟨w2.heap.size,6,none⟩=some (.string ⟨#[]⟩)∧w'.cell? ⟨w2.heap.size,7,none⟩=some (.string s.b.vt)∧w'.cell? ⟨w2.heap.size,8,none⟩=some (.int .i64 s.b.vs)∧w'.cell? ⟨w2.heap.size,9,none⟩=some (.slice na s.b.ns.length nc)∧w'.cell? ⟨w2.heap.size,10,none⟩=some (.string s.setup)∧w'.cell? ⟨w2.heap.size,11,none⟩=some (.slice sa s.sound.length sc)∧w'.cell? ⟨w8.heap.size,0,none⟩=some (.int .u8 h.first.fl.toNat)∧w'.cell? ⟨w8.heap.size,1,none⟩=some (.int .u64 h.first.po)∧w'.cell? ⟨w8.heap.size,2,none⟩=some (.int .u32 h.first.se)∧w'.cell? ⟨w8.heap.size,3,none⟩=some (.int .u32 h.first.nu)∧w'.cell? ⟨w8.heap.size,4,none⟩=some (.string h.first.la)∧w'.cell? ⟨w8.heap.size,5,none⟩=some (.string h.first.bo)∧w'.cell? ⟨w8.heap.size,6,none⟩=some (.string h.b.vt)∧w'.cell? ⟨w8.heap.size,7,none⟩=some (.int .i64 h.b.vs)∧w'.cell? ⟨w8.heap.size,8,none⟩=some (.slice an3 h.b.ns.length cn3)∧w'.cell? ⟨w8.heap.size,9,none⟩=some (.string h.setup)∧w'.cell? ⟨w8.heap.size,10,none⟩=some (.slice as3 h.sound.length cs3)∧w'.cell? ⟨w8.heap.size+1,0,none⟩=some (.int .i64 0)∧w'.cell? ⟨w8.heap.size+1,1,none⟩=some (.int .i64 0))
     (first|(with_reducible refine KSA.out _ ?_;exact hbk)|go_keep)
     (first
       | (go_at_call 5;refine(KA2.out _ ?_).mono ?_;(first|exact hbk|exact bdn hbk _|exact hbk.drew);clear hbk;rintro e w10 ⟨rfl,hbk⟩)
       | (go_at_call 16;refine(KB.out _ ?_).mono ?_;(first|exact hbk|exact bdn hbk _|exact hbk.drew);clear hbk;rintro e w11 ⟨rfl,hbk⟩)
       | (go_at_call 15;refine(KR.out _ ?_).mono ?_;(first|exact hbk|exact bdn hbk _|exact hbk.drew);clear hbk;rintro e w12 ⟨rfl,hbk⟩)
       | (go_at_call 6;refine(KO.out _ ?_).mono ?_;(first|exact hbk|exact bdn hbk _|exact hbk.drew);clear hbk;rintro e w13 ⟨va,nb,rfl,hvb,hbk⟩)
       | (go_at_call 17;refine(KS.out _ _ _ ?_ ?_).mono ?_;(first|exact hvb|exact hvb.keep (Below.refl _ _).drew);(first|exact hbk|exact bdn hbk _|exact hbk.drew);clear hbk;rintro e w14 ⟨rfl,hbk⟩))
    go_wp2_with fail
    go_ret
    exact⟨rfl,bt HBW.out hbk⟩
theorem walk(vn vs:Value)(s:OS)(fb:Int)(g:Bool)(w0:okOS s)(w1:(Lit.int .i64 fb).wf=true)(w:World)(R0:OsRow w vn vs s)(hT:TW w):
 Calls Tryz.prog 3 #[osV vn vs s,.int .i64 fb,.bool g] w fun e w'=>e=.returned (.bool true)∧Below w.heap.size w w':=by
 cases hl:lightO s with
 | false=>exact vp7 vn vs s fb g w0 w R0 hT hl
 | true=>
  by_cases hc:(ocheckM s).1=0
  · exact vp6 vn vs s fb g w0 w R0 hT hl hc
  · exact walk_bad vn vs s fb g w0 w R0 hT hl hc
end Go.Proofs.YtagjkmkmphamoaaGreatDoor.oggPrints
