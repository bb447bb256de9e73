/- Yj -/
import Derived.Test.YtagjkmkmphamoaaGreatDoorPC1
set_option linter.all false
set_option maxHeartbeats 8000000
namespace Go.Proofs.YtagjkmkmphamoaaGreatDoor
open Go.RowKit
def RCPost(R:Int×Int)(w:World)(e:Ending)(w':World):Prop:=e=.returned (.tuple #[.int .i64 R.1,.int .i64 R.2])∧Below w.heap.size w w'
set_option maxRecDepth 100000 in
theorem rck_1(vn vs:Value)(s:OS)(w:World)(hrow:RoRow w vn vs s)(hok:smOS s)(ho:opensG s.first=false):
 Calls Tryz.prog 7 #[.agg (roC vn vs s)] w (RCPost (ocheckM s) w):=by
 have hrn:=hrow.1;obtain⟨⟨an,cn,rfl,_⟩,⟨as_,cs_,rfl,hc⟩⟩:=hrow;obtain⟨n,hn⟩:∃n,n=s.sound.length:=⟨_,rfl⟩;obtain⟨R,hR⟩:∃R,R=ocheckM s:=⟨_,rfl⟩;rw[←hR];rw[←hn];unfold RCPost;show Calls Tryz.prog 7 #[.agg #[.int .i64 s.first.fl.toNat,.int .u64 s.first.po,.int .u64 s.first.se,.int .u64 s.first.nu,.string s.first.la,.string s.first.bo,.string ⟨#[]⟩,.string s.b.vt,.int .i64 s.b.vs,.slice an s.b.ns.length cn,.string s.setup,.slice as_ n cs_]] w _;have ko:∀w,Calls Tryz.prog 21 #[.agg #[.int .i64 s.first.fl.toNat,.int .u64 s.first.po,.int .u64 s.first.se,.int .u64 s.first.nu,.string s.first.la,.string s.first.bo]] w fun e w'=>e=.returned (.bool (opensG s.first))∧Below w.heap.size w w':=fun w=>by
  have:=jn1 s.first w hok.2.1.1 hok.2.1.2
  exact this
 have kc1:∀w',Below w.heap.size w w'→Calls Tryz.prog 22 #[.agg #[.string ⟨#[]⟩,.string s.b.vt,.int .i64 s.b.vs,.slice an s.b.ns.length cn]] w' fun e w''=>e=.returned (.tuple #[.int .i64 (checkM s.b).1,.int .i64 (checkM s.b).2])∧Below w'.heap.size w' w'':=fun w' hb=>jn3 _ s.b w' (hrn.keep hb) hok.1
 have kx:∀w,Calls Tryz.prog 23 #[.string s.setup,.int .u8 5] w fun e w'=>e=.returned (.bool (preM (bl s.setup) (vorb 5)))∧w=w':=fun w=>jg3 s.setup 5 w
 obtain⟨W,hW⟩:∃W,W=w.alloc (.cells #[.int .i64 s.first.fl.toNat,.int .u64 s.first.po,.int .u64 s.first.se,.int .u64 s.first.nu,.string s.first.la,.string s.first.bo,.string ⟨#[]⟩,.string s.b.vt,.int .i64 s.b.vs,.slice an s.b.ns.length cn,.string s.setup,.slice as_ n cs_] 48):=⟨_,rfl⟩;have hbW:Below w.heap.size w W:=by rw[hW];exact bal (Below.refl _ _) _
 have B0:W.heap[w.heap.size]?=some (.cells #[.int .i64 s.first.fl.toNat,.int .u64 s.first.po,.int .u64 s.first.se,.int .u64 s.first.nu,.string s.first.la,.string s.first.bo,.string ⟨#[]⟩,.string s.b.vt,.int .i64 s.b.vs,.slice an s.b.ns.length cn,.string s.setup,.slice as_ n cs_] 48 (0,0)):=by rw[hW];exact heap_alloc_new _ _
 unfold ocheckM at hR;rw[if_pos (.inl ho)]at hR;rw[ho]at ko;have HR:=Lib.hid hR;have KO:=Lib.hid ko;have HBW:=Lib.hid hbW;have HB0:=Lib.hid B0;clear ko hbW B0;clear kc1 kx hR hc hok hrn hn;obtain⟨x0,_⟩:=jb0 (HB0.out) 0 _ rfl;obtain⟨x1,_⟩:=jb0 (HB0.out) 1 _ rfl;obtain⟨x2,_⟩:=jb0 (HB0.out) 2 _ rfl;obtain⟨x3,_⟩:=jb0 (HB0.out) 3 _ rfl;obtain⟨x4,_⟩:=jb0 (HB0.out) 4 _ rfl;obtain⟨x5,_⟩:=jb0 (HB0.out) 5 _ rfl;obtain⟨x6,_⟩:=jb0 (HB0.out) 6 _ rfl;obtain⟨x7,_⟩:=jb0 (HB0.out) 7 _ rfl;obtain⟨x8,_⟩:=jb0 (HB0.out) 8 _ rfl;obtain⟨x9,_⟩:=jb0 (HB0.out) 9 _ rfl;obtain⟨x10,_⟩:=jb0 (HB0.out) 10 _ rfl;obtain⟨x11,_⟩:=jb0 (HB0.out) 11 _ rfl
 go_enter Tryz.func7,Tryz.ntmps7
 go_wp2_with fail
 rw[←hW];clear hW
 go_wp2_with (first
  | (go_at_call 21;(with_reducible refine(KO.out _).mono ?_);rintro e1 w1 ⟨rfl,hb1⟩;have hx1:=bt HBW.out hb1;have B1:=blkP HB0.out hb1;clear x0 x1 x2 x3 x4 x5 x6 x7 x8 x9 x10 x11;obtain⟨x0,_⟩:=jb0 (B1) 0 _ rfl;obtain⟨x1,_⟩:=jb0 (B1) 1 _ rfl;obtain⟨x2,_⟩:=jb0 (B1) 2 _ rfl;obtain⟨x3,_⟩:=jb0 (B1) 3 _ rfl;obtain⟨x4,_⟩:=jb0 (B1) 4 _ rfl;obtain⟨x5,_⟩:=jb0 (B1) 5 _ rfl;obtain⟨x6,_⟩:=jb0 (B1) 6 _ rfl;obtain⟨x7,_⟩:=jb0 (B1) 7 _ rfl;obtain⟨x8,_⟩:=jb0 (B1) 8 _ rfl;obtain⟨x9,_⟩:=jb0 (B1) 9 _ rfl;obtain⟨x10,_⟩:=jb0 (B1) 10 _ rfl;obtain⟨x11,_⟩:=jb0 (B1) 11 _ rfl)
  | fail)
 go_ret2
 exact⟨by rw[HR.out];rfl,hx1⟩
set_option maxRecDepth 100000 in
theorem rck_2(vn vs:Value)(s:OS)(w:World)(hrow:RoRow w vn vs s)(hok:smOS s)(ho:opensG s.first=true)(hnu:s.first.nu≠0):
 Calls Tryz.prog 7 #[.agg (roC vn vs s)] w (RCPost (ocheckM s) w):=by
 have hrn:=hrow.1;obtain⟨⟨an,cn,rfl,_⟩,⟨as_,cs_,rfl,hc⟩⟩:=hrow;obtain⟨n,hn⟩:∃n,n=s.sound.length:=⟨_,rfl⟩;obtain⟨R,hR⟩:∃R,R=ocheckM s:=⟨_,rfl⟩;rw[←hR];rw[←hn];unfold RCPost;show Calls Tryz.prog 7 #[.agg #[.int .i64 s.first.fl.toNat,.int .u64 s.first.po,.int .u64 s.first.se,.int .u64 s.first.nu,.string s.first.la,.string s.first.bo,.string ⟨#[]⟩,.string s.b.vt,.int .i64 s.b.vs,.slice an s.b.ns.length cn,.string s.setup,.slice as_ n cs_]] w _;have ko:∀w,Calls Tryz.prog 21 #[.agg #[.int .i64 s.first.fl.toNat,.int .u64 s.first.po,.int .u64 s.first.se,.int .u64 s.first.nu,.string s.first.la,.string s.first.bo]] w fun e w'=>e=.returned (.bool (opensG s.first))∧Below w.heap.size w w':=fun w=>by
  have:=jn1 s.first w hok.2.1.1 hok.2.1.2
  exact this
 have kc1:∀w',Below w.heap.size w w'→Calls Tryz.prog 22 #[.agg #[.string ⟨#[]⟩,.string s.b.vt,.int .i64 s.b.vs,.slice an s.b.ns.length cn]] w' fun e w''=>e=.returned (.tuple #[.int .i64 (checkM s.b).1,.int .i64 (checkM s.b).2])∧Below w'.heap.size w' w'':=fun w' hb=>jn3 _ s.b w' (hrn.keep hb) hok.1
 have kx:∀w,Calls Tryz.prog 23 #[.string s.setup,.int .u8 5] w fun e w'=>e=.returned (.bool (preM (bl s.setup) (vorb 5)))∧w=w':=fun w=>jg3 s.setup 5 w
 obtain⟨W,hW⟩:∃W,W=w.alloc (.cells #[.int .i64 s.first.fl.toNat,.int .u64 s.first.po,.int .u64 s.first.se,.int .u64 s.first.nu,.string s.first.la,.string s.first.bo,.string ⟨#[]⟩,.string s.b.vt,.int .i64 s.b.vs,.slice an s.b.ns.length cn,.string s.setup,.slice as_ n cs_] 48):=⟨_,rfl⟩;have hbW:Below w.heap.size w W:=by rw[hW];exact bal (Below.refl _ _) _
 have B0:W.heap[w.heap.size]?=some (.cells #[.int .i64 s.first.fl.toNat,.int .u64 s.first.po,.int .u64 s.first.se,.int .u64 s.first.nu,.string s.first.la,.string s.first.bo,.string ⟨#[]⟩,.string s.b.vt,.int .i64 s.b.vs,.slice an s.b.ns.length cn,.string s.setup,.slice as_ n cs_] 48 (0,0)):=by rw[hW];exact heap_alloc_new _ _
 unfold ocheckM at hR;rw[if_pos (.inr hnu)]at hR;rw[ho]at ko;have b1:((s.first.nu:Int) != 0)=true:=by simp;omega
 have b2:¬s.first.nu=0:=hnu
 have HR:=Lib.hid hR;have KO:=Lib.hid ko;have HBW:=Lib.hid hbW;have HB0:=Lib.hid B0;clear ko hbW B0;clear kc1 kx hR hc hok hrn hn;obtain⟨x0,_⟩:=jb0 (HB0.out) 0 _ rfl;obtain⟨x1,_⟩:=jb0 (HB0.out) 1 _ rfl;obtain⟨x2,_⟩:=jb0 (HB0.out) 2 _ rfl;obtain⟨x3,_⟩:=jb0 (HB0.out) 3 _ rfl;obtain⟨x4,_⟩:=jb0 (HB0.out) 4 _ rfl;obtain⟨x5,_⟩:=jb0 (HB0.out) 5 _ rfl;obtain⟨x6,_⟩:=jb0 (HB0.out) 6 _ rfl;obtain⟨x7,_⟩:=jb0 (HB0.out) 7 _ rfl;obtain⟨x8,_⟩:=jb0 (HB0.out) 8 _ rfl;obtain⟨x9,_⟩:=jb0 (HB0.out) 9 _ rfl;obtain⟨x10,_⟩:=jb0 (HB0.out) 10 _ rfl;obtain⟨x11,_⟩:=jb0 (HB0.out) 11 _ rfl
 go_enter Tryz.func7,Tryz.ntmps7
 go_wp2_with fail
 rw[←hW];clear hW
 go_wp2_with (first
  | (go_at_call 21;(with_reducible refine(KO.out _).mono ?_);rintro e1 w1 ⟨rfl,hb1⟩;have hx1:=bt HBW.out hb1;have B1:=blkP HB0.out hb1;clear x0 x1 x2 x3 x4 x5 x6 x7 x8 x9 x10 x11;obtain⟨x0,_⟩:=jb0 (B1) 0 _ rfl;obtain⟨x1,_⟩:=jb0 (B1) 1 _ rfl;obtain⟨x2,_⟩:=jb0 (B1) 2 _ rfl;obtain⟨x3,_⟩:=jb0 (B1) 3 _ rfl;obtain⟨x4,_⟩:=jb0 (B1) 4 _ rfl;obtain⟨x5,_⟩:=jb0 (B1) 5 _ rfl;obtain⟨x6,_⟩:=jb0 (B1) 6 _ rfl;obtain⟨x7,_⟩:=jb0 (B1) 7 _ rfl;obtain⟨x8,_⟩:=jb0 (B1) 8 _ rfl;obtain⟨x9,_⟩:=jb0 (B1) 9 _ rfl;obtain⟨x10,_⟩:=jb0 (B1) 10 _ rfl;obtain⟨x11,_⟩:=jb0 (B1) 11 _ rfl)
  | fail)
 go_ret2
 exact⟨by rw[HR.out];rfl,hx1⟩
set_option maxRecDepth 100000 in
theorem rck_3(vn vs:Value)(s:OS)(w:World)(hrow:RoRow w vn vs s)(hok:smOS s)(ho:opensG s.first=true)(hnu:s.first.nu=0)(hcc:(checkM s.b).1≠0):
 Calls Tryz.prog 7 #[.agg (roC vn vs s)] w (RCPost (ocheckM s) w):=by
 have hrn:=hrow.1;obtain⟨⟨an,cn,rfl,_⟩,⟨as_,cs_,rfl,hc⟩⟩:=hrow;obtain⟨n,hn⟩:∃n,n=s.sound.length:=⟨_,rfl⟩;obtain⟨R,hR⟩:∃R,R=ocheckM s:=⟨_,rfl⟩;rw[←hR];rw[←hn];unfold RCPost;have hro:roC (.slice an s.b.ns.length cn) (.slice as_ n cs_) s=#[.int .i64 s.first.fl.toNat,.int .u64 s.first.po,.int .u64 s.first.se,.int .u64 0,.string s.first.la,.string s.first.bo,.string ⟨#[]⟩,.string s.b.vt,.int .i64 s.b.vs,.slice an s.b.ns.length cn,.string s.setup,.slice as_ n cs_]:=by unfold roC;rw[hnu];rfl
 rw[hro];show Calls Tryz.prog 7 #[.agg #[.int .i64 s.first.fl.toNat,.int .u64 s.first.po,.int .u64 s.first.se,.int .u64 0,.string s.first.la,.string s.first.bo,.string ⟨#[]⟩,.string s.b.vt,.int .i64 s.b.vs,.slice an s.b.ns.length cn,.string s.setup,.slice as_ n cs_]] w _;have ko:∀w,Calls Tryz.prog 21 #[.agg #[.int .i64 s.first.fl.toNat,.int .u64 s.first.po,.int .u64 s.first.se,.int .u64 0,.string s.first.la,.string s.first.bo]] w fun e w'=>e=.returned (.bool (opensG s.first))∧Below w.heap.size w w':=fun w=>by
  have:=jn1 s.first w hok.2.1.1 hok.2.1.2
  rw[hnu]at this;exact this
 have kc1:∀w',Below w.heap.size w w'→Calls Tryz.prog 22 #[.agg #[.string ⟨#[]⟩,.string s.b.vt,.int .i64 s.b.vs,.slice an s.b.ns.length cn]] w' fun e w''=>e=.returned (.tuple #[.int .i64 (checkM s.b).1,.int .i64 (checkM s.b).2])∧Below w'.heap.size w' w'':=fun w' hb=>jn3 _ s.b w' (hrn.keep hb) hok.1
 have kx:∀w,Calls Tryz.prog 23 #[.string s.setup,.int .u8 5] w fun e w'=>e=.returned (.bool (preM (bl s.setup) (vorb 5)))∧w=w':=fun w=>jg3 s.setup 5 w
 obtain⟨W,hW⟩:∃W,W=w.alloc (.cells #[.int .i64 s.first.fl.toNat,.int .u64 s.first.po,.int .u64 s.first.se,.int .u64 0,.string s.first.la,.string s.first.bo,.string ⟨#[]⟩,.string s.b.vt,.int .i64 s.b.vs,.slice an s.b.ns.length cn,.string s.setup,.slice as_ n cs_] 48):=⟨_,rfl⟩;have hbW:Below w.heap.size w W:=by rw[hW];exact bal (Below.refl _ _) _
 have B0:W.heap[w.heap.size]?=some (.cells #[.int .i64 s.first.fl.toNat,.int .u64 s.first.po,.int .u64 s.first.se,.int .u64 0,.string s.first.la,.string s.first.bo,.string ⟨#[]⟩,.string s.b.vt,.int .i64 s.b.vs,.slice an s.b.ns.length cn,.string s.setup,.slice as_ n cs_] 48 (0,0)):=by rw[hW];exact heap_alloc_new _ _
 unfold ocheckM at hR;rw[if_neg (by rintro(h|h);(rw[ho]at h;cases h);exact h hnu)]at hR;rw[ho]at ko;rw[if_pos hcc]at hR;have hne:((checkM s.b).1 != 0)=true:=by simpa using hcc
 have hne2:¬(checkM s.b).1=0:=hcc;generalize checkM s.b=CC at *;obtain⟨cc,ca⟩:=CC;simp only at kc1 hne hne2 hR;have HR:=Lib.hid hR;have KO:=Lib.hid ko;have KC:=Lib.hid kc1;have HBW:=Lib.hid hbW;have HB0:=Lib.hid B0;clear ko kc1 hbW B0;clear kx hR hc hok hrn hcc hn;obtain⟨x0,_⟩:=jb0 (HB0.out) 0 _ rfl;obtain⟨x1,_⟩:=jb0 (HB0.out) 1 _ rfl;obtain⟨x2,_⟩:=jb0 (HB0.out) 2 _ rfl;obtain⟨x3,_⟩:=jb0 (HB0.out) 3 _ rfl;obtain⟨x4,_⟩:=jb0 (HB0.out) 4 _ rfl;obtain⟨x5,_⟩:=jb0 (HB0.out) 5 _ rfl;obtain⟨x6,_⟩:=jb0 (HB0.out) 6 _ rfl;obtain⟨x7,_⟩:=jb0 (HB0.out) 7 _ rfl;obtain⟨x8,_⟩:=jb0 (HB0.out) 8 _ rfl;obtain⟨x9,_⟩:=jb0 (HB0.out) 9 _ rfl;obtain⟨x10,_⟩:=jb0 (HB0.out) 10 _ rfl;obtain⟨x11,_⟩:=jb0 (HB0.out) 11 _ rfl
 go_enter Tryz.func7,Tryz.ntmps7
 go_wp2_with fail
 rw[←hW];clear hW
 go_wp2_with (first
  | (go_at_call 21;(with_reducible refine(KO.out _).mono ?_);rintro e1 w1 ⟨rfl,hb1⟩;have hx1:=bt HBW.out hb1;have B1:=blkP HB0.out hb1;clear x0 x1 x2 x3 x4 x5 x6 x7 x8 x9 x10 x11;obtain⟨x0,_⟩:=jb0 (B1) 0 _ rfl;obtain⟨x1,_⟩:=jb0 (B1) 1 _ rfl;obtain⟨x2,_⟩:=jb0 (B1) 2 _ rfl;obtain⟨x3,_⟩:=jb0 (B1) 3 _ rfl;obtain⟨x4,_⟩:=jb0 (B1) 4 _ rfl;obtain⟨x5,_⟩:=jb0 (B1) 5 _ rfl;obtain⟨x6,_⟩:=jb0 (B1) 6 _ rfl;obtain⟨x7,_⟩:=jb0 (B1) 7 _ rfl;obtain⟨x8,_⟩:=jb0 (B1) 8 _ rfl;obtain⟨x9,_⟩:=jb0 (B1) 9 _ rfl;obtain⟨x10,_⟩:=jb0 (B1) 10 _ rfl;obtain⟨x11,_⟩:=jb0 (B1) 11 _ rfl)
  | (go_at_call 22;(with_reducible refine(KC.out _ hx1).mono ?_);rintro e2 w2 ⟨rfl,hb2⟩;have hx2:=bt hx1 hb2;have B2:=blkP B1 hb2;clear x0 x1 x2 x3 x4 x5 x6 x7 x8 x9 x10 x11;obtain⟨x0,_⟩:=jb0 (B2) 0 _ rfl;obtain⟨x1,_⟩:=jb0 (B2) 1 _ rfl;obtain⟨x2,_⟩:=jb0 (B2) 2 _ rfl;obtain⟨x3,_⟩:=jb0 (B2) 3 _ rfl;obtain⟨x4,_⟩:=jb0 (B2) 4 _ rfl;obtain⟨x5,_⟩:=jb0 (B2) 5 _ rfl;obtain⟨x6,_⟩:=jb0 (B2) 6 _ rfl;obtain⟨x7,_⟩:=jb0 (B2) 7 _ rfl;obtain⟨x8,_⟩:=jb0 (B2) 8 _ rfl;obtain⟨x9,_⟩:=jb0 (B2) 9 _ rfl;obtain⟨x10,_⟩:=jb0 (B2) 10 _ rfl;obtain⟨x11,_⟩:=jb0 (B2) 11 _ rfl)
  | fail)
 go_ret2
 exact⟨by rw[HR.out];rfl,hx2⟩
set_option maxRecDepth 100000 in
theorem rck_4(vn vs:Value)(s:OS)(w:World)(hrow:RoRow w vn vs s)(hok:smOS s)(ho:opensG s.first=true)(hnu:s.first.nu=0)(hcc:(checkM s.b).1=0)(hp:preM (bl s.setup) (vorb 5)=false):
 Calls Tryz.prog 7 #[.agg (roC vn vs s)] w (RCPost (ocheckM s) w):=by
 have hrn:=hrow.1;obtain⟨⟨an,cn,rfl,_⟩,⟨as_,cs_,rfl,hc⟩⟩:=hrow;obtain⟨n,hn⟩:∃n,n=s.sound.length:=⟨_,rfl⟩;obtain⟨R,hR⟩:∃R,R=ocheckM s:=⟨_,rfl⟩;rw[←hR];rw[←hn];unfold RCPost;have hro:roC (.slice an s.b.ns.length cn) (.slice as_ n cs_) s=#[.int .i64 s.first.fl.toNat,.int .u64 s.first.po,.int .u64 s.first.se,.int .u64 0,.string s.first.la,.string s.first.bo,.string ⟨#[]⟩,.string s.b.vt,.int .i64 s.b.vs,.slice an s.b.ns.length cn,.string s.setup,.slice as_ n cs_]:=by unfold roC;rw[hnu];rfl
 rw[hro];show Calls Tryz.prog 7 #[.agg #[.int .i64 s.first.fl.toNat,.int .u64 s.first.po,.int .u64 s.first.se,.int .u64 0,.string s.first.la,.string s.first.bo,.string ⟨#[]⟩,.string s.b.vt,.int .i64 s.b.vs,.slice an s.b.ns.length cn,.string s.setup,.slice as_ n cs_]] w _;have ko:∀w,Calls Tryz.prog 21 #[.agg #[.int .i64 s.first.fl.toNat,.int .u64 s.first.po,.int .u64 s.first.se,.int .u64 0,.string s.first.la,.string s.first.bo]] w fun e w'=>e=.returned (.bool (opensG s.first))∧Below w.heap.size w w':=fun w=>by
  have:=jn1 s.first w hok.2.1.1 hok.2.1.2
  rw[hnu]at this;exact this
 have kc1:∀w',Below w.heap.size w w'→Calls Tryz.prog 22 #[.agg #[.string ⟨#[]⟩,.string s.b.vt,.int .i64 s.b.vs,.slice an s.b.ns.length cn]] w' fun e w''=>e=.returned (.tuple #[.int .i64 (checkM s.b).1,.int .i64 (checkM s.b).2])∧Below w'.heap.size w' w'':=fun w' hb=>jn3 _ s.b w' (hrn.keep hb) hok.1
 have kx:∀w,Calls Tryz.prog 23 #[.string s.setup,.int .u8 5] w fun e w'=>e=.returned (.bool (preM (bl s.setup) (vorb 5)))∧w=w':=fun w=>jg3 s.setup 5 w
 obtain⟨W,hW⟩:∃W,W=w.alloc (.cells #[.int .i64 s.first.fl.toNat,.int .u64 s.first.po,.int .u64 s.first.se,.int .u64 0,.string s.first.la,.string s.first.bo,.string ⟨#[]⟩,.string s.b.vt,.int .i64 s.b.vs,.slice an s.b.ns.length cn,.string s.setup,.slice as_ n cs_] 48):=⟨_,rfl⟩;have hbW:Below w.heap.size w W:=by rw[hW];exact bal (Below.refl _ _) _
 have B0:W.heap[w.heap.size]?=some (.cells #[.int .i64 s.first.fl.toNat,.int .u64 s.first.po,.int .u64 s.first.se,.int .u64 0,.string s.first.la,.string s.first.bo,.string ⟨#[]⟩,.string s.b.vt,.int .i64 s.b.vs,.slice an s.b.ns.length cn,.string s.setup,.slice as_ n cs_] 48 (0,0)):=by rw[hW];exact heap_alloc_new _ _
 unfold ocheckM at hR;rw[if_neg (by rintro(h|h);(rw[ho]at h;cases h);exact h hnu)]at hR;rw[ho]at ko;rw[if_neg (fun h=>h hcc)]at hR;have hcm:checkM s.b=(0,(checkM s.b).2):=Prod.ext hcc rfl;rw[hcm]at kc1;generalize (checkM s.b).2=ca at *;simp only at kc1;rw[if_pos hp]at hR;rw[hp]at kx;have HR:=Lib.hid hR;have KO:=Lib.hid ko;have KC:=Lib.hid kc1;have KX:=Lib.hid kx;have HBW:=Lib.hid hbW;have HB0:=Lib.hid B0;clear ko kc1 kx hbW B0;clear hR hc hok hrn hcc hn;obtain⟨x0,_⟩:=jb0 (HB0.out) 0 _ rfl;obtain⟨x1,_⟩:=jb0 (HB0.out) 1 _ rfl;obtain⟨x2,_⟩:=jb0 (HB0.out) 2 _ rfl;obtain⟨x3,_⟩:=jb0 (HB0.out) 3 _ rfl;obtain⟨x4,_⟩:=jb0 (HB0.out) 4 _ rfl;obtain⟨x5,_⟩:=jb0 (HB0.out) 5 _ rfl;obtain⟨x6,_⟩:=jb0 (HB0.out) 6 _ rfl;obtain⟨x7,_⟩:=jb0 (HB0.out) 7 _ rfl;obtain⟨x8,_⟩:=jb0 (HB0.out) 8 _ rfl;obtain⟨x9,_⟩:=jb0 (HB0.out) 9 _ rfl;obtain⟨x10,_⟩:=jb0 (HB0.out) 10 _ rfl;obtain⟨x11,_⟩:=jb0 (HB0.out) 11 _ rfl
 go_enter Tryz.func7,Tryz.ntmps7
 go_wp2_with fail
 rw[←hW];clear hW
 go_wp2_with (first
  | (go_at_call 21;(with_reducible refine(KO.out _).mono ?_);rintro e1 w1 ⟨rfl,hb1⟩;have hx1:=bt HBW.out hb1;have B1:=blkP HB0.out hb1;clear x0 x1 x2 x3 x4 x5 x6 x7 x8 x9 x10 x11;obtain⟨x0,_⟩:=jb0 (B1) 0 _ rfl;obtain⟨x1,_⟩:=jb0 (B1) 1 _ rfl;obtain⟨x2,_⟩:=jb0 (B1) 2 _ rfl;obtain⟨x3,_⟩:=jb0 (B1) 3 _ rfl;obtain⟨x4,_⟩:=jb0 (B1) 4 _ rfl;obtain⟨x5,_⟩:=jb0 (B1) 5 _ rfl;obtain⟨x6,_⟩:=jb0 (B1) 6 _ rfl;obtain⟨x7,_⟩:=jb0 (B1) 7 _ rfl;obtain⟨x8,_⟩:=jb0 (B1) 8 _ rfl;obtain⟨x9,_⟩:=jb0 (B1) 9 _ rfl;obtain⟨x10,_⟩:=jb0 (B1) 10 _ rfl;obtain⟨x11,_⟩:=jb0 (B1) 11 _ rfl)
  | (go_at_call 22;(with_reducible refine(KC.out _ hx1).mono ?_);rintro e2 w2 ⟨rfl,hb2⟩;have hx2:=bt hx1 hb2;have B2:=blkP B1 hb2;clear x0 x1 x2 x3 x4 x5 x6 x7 x8 x9 x10 x11;obtain⟨x0,_⟩:=jb0 (B2) 0 _ rfl;obtain⟨x1,_⟩:=jb0 (B2) 1 _ rfl;obtain⟨x2,_⟩:=jb0 (B2) 2 _ rfl;obtain⟨x3,_⟩:=jb0 (B2) 3 _ rfl;obtain⟨x4,_⟩:=jb0 (B2) 4 _ rfl;obtain⟨x5,_⟩:=jb0 (B2) 5 _ rfl;obtain⟨x6,_⟩:=jb0 (B2) 6 _ rfl;obtain⟨x7,_⟩:=jb0 (B2) 7 _ rfl;obtain⟨x8,_⟩:=jb0 (B2) 8 _ rfl;obtain⟨x9,_⟩:=jb0 (B2) 9 _ rfl;obtain⟨x10,_⟩:=jb0 (B2) 10 _ rfl;obtain⟨x11,_⟩:=jb0 (B2) 11 _ rfl)
  | (go_at_call 23;(with_reducible refine(KX.out _).mono ?_);rintro e3 w3 ⟨rfl,rfl⟩)
  | fail)
 go_ret2
 exact⟨by rw[HR.out];rfl,hx2⟩
set_option maxRecDepth 100000 in
theorem rck_5(vn vs:Value)(s:OS)(w:World)(hrow:RoRow w vn vs s)(hok:smOS s)(ho:opensG s.first=true)(hnu:s.first.nu=0)(hcc:(checkM s.b).1=0)(hp:preM (bl s.setup) (vorb 5)=true):
 Calls Tryz.prog 7 #[.agg (roC vn vs s)] w (RCPost (ocheckM s) w):=by
 have hrn:=hrow.1;obtain⟨⟨an,cn,rfl,_⟩,⟨as_,cs_,rfl,hc⟩⟩:=hrow;obtain⟨n,hn⟩:∃n,n=s.sound.length:=⟨_,rfl⟩;obtain⟨R,hR⟩:∃R,R=ocheckM s:=⟨_,rfl⟩;rw[←hR];rw[←hn];unfold RCPost;have hro:roC (.slice an s.b.ns.length cn) (.slice as_ n cs_) s=#[.int .i64 s.first.fl.toNat,.int .u64 s.first.po,.int .u64 s.first.se,.int .u64 0,.string s.first.la,.string s.first.bo,.string ⟨#[]⟩,.string s.b.vt,.int .i64 s.b.vs,.slice an s.b.ns.length cn,.string s.setup,.slice as_ n cs_]:=by unfold roC;rw[hnu];rfl
 rw[hro];show Calls Tryz.prog 7 #[.agg #[.int .i64 s.first.fl.toNat,.int .u64 s.first.po,.int .u64 s.first.se,.int .u64 0,.string s.first.la,.string s.first.bo,.string ⟨#[]⟩,.string s.b.vt,.int .i64 s.b.vs,.slice an s.b.ns.length cn,.string s.setup,.slice as_ n cs_]] w _;have ko:∀w,Calls Tryz.prog 21 #[.agg #[.int .i64 s.first.fl.toNat,.int .u64 s.first.po,.int .u64 s.first.se,.int .u64 0,.string s.first.la,.string s.first.bo]] w fun e w'=>e=.returned (.bool (opensG s.first))∧Below w.heap.size w w':=fun w=>by
  have:=jn1 s.first w hok.2.1.1 hok.2.1.2
  rw[hnu]at this;exact this
 have kc1:∀w',Below w.heap.size w w'→Calls Tryz.prog 22 #[.agg #[.string ⟨#[]⟩,.string s.b.vt,.int .i64 s.b.vs,.slice an s.b.ns.length cn]] w' fun e w''=>e=.returned (.tuple #[.int .i64 (checkM s.b).1,.int .i64 (checkM s.b).2])∧Below w'.heap.size w' w'':=fun w' hb=>jn3 _ s.b w' (hrn.keep hb) hok.1
 have kx:∀w,Calls Tryz.prog 23 #[.string s.setup,.int .u8 5] w fun e w'=>e=.returned (.bool (preM (bl s.setup) (vorb 5)))∧w=w':=fun w=>jg3 s.setup 5 w
 obtain⟨W,hW⟩:∃W,W=w.alloc (.cells #[.int .i64 s.first.fl.toNat,.int .u64 s.first.po,.int .u64 s.first.se,.int .u64 0,.string s.first.la,.string s.first.bo,.string ⟨#[]⟩,.string s.b.vt,.int .i64 s.b.vs,.slice an s.b.ns.length cn,.string s.setup,.slice as_ n cs_] 48):=⟨_,rfl⟩;have hbW:Below w.heap.size w W:=by rw[hW];exact bal (Below.refl _ _) _
 have B0:W.heap[w.heap.size]?=some (.cells #[.int .i64 s.first.fl.toNat,.int .u64 s.first.po,.int .u64 s.first.se,.int .u64 0,.string s.first.la,.string s.first.bo,.string ⟨#[]⟩,.string s.b.vt,.int .i64 s.b.vs,.slice an s.b.ns.length cn,.string s.setup,.slice as_ n cs_] 48 (0,0)):=by rw[hW];exact heap_alloc_new _ _
 unfold ocheckM at hR;rw[if_neg (by rintro(h|h);(rw[ho]at h;cases h);exact h hnu)]at hR;rw[ho]at ko;rw[if_neg (fun h=>h hcc)]at hR;have hcm:checkM s.b=(0,(checkM s.b).2):=Prod.ext hcc rfl;rw[hcm]at kc1;generalize (checkM s.b).2=ca at *;simp only at kc1;rw[if_neg (by rw[hp];decide)]at hR;rw[hp]at kx;have hnl:=hok.2.2.2.1;have hsz:=hok.2.2.2.2;rw[←hn]at hnl;have KO:=Lib.hid ko;have KC:=Lib.hid kc1;have KX:=Lib.hid kx;have HBW:=Lib.hid hbW;have HB0:=Lib.hid B0;have HC:=Lib.hid hc;have HN:=Lib.hid hn;have HR:=Lib.hid hR;have HSZ:=Lib.hid hsz;clear ko kc1 kx hbW B0 hc hn hR hsz;clear hok hrn hcc;obtain⟨x0,_⟩:=jb0 (HB0.out) 0 _ rfl;obtain⟨x1,_⟩:=jb0 (HB0.out) 1 _ rfl;obtain⟨x2,_⟩:=jb0 (HB0.out) 2 _ rfl;obtain⟨x3,_⟩:=jb0 (HB0.out) 3 _ rfl;obtain⟨x4,_⟩:=jb0 (HB0.out) 4 _ rfl;obtain⟨x5,_⟩:=jb0 (HB0.out) 5 _ rfl;obtain⟨x6,_⟩:=jb0 (HB0.out) 6 _ rfl;obtain⟨x7,_⟩:=jb0 (HB0.out) 7 _ rfl;obtain⟨x8,_⟩:=jb0 (HB0.out) 8 _ rfl;obtain⟨x9,_⟩:=jb0 (HB0.out) 9 _ rfl;obtain⟨x10,_⟩:=jb0 (HB0.out) 10 _ rfl;obtain⟨x11,_⟩:=jb0 (HB0.out) 11 _ rfl
 go_enter Tryz.func7,Tryz.ntmps7
 go_wp2_with fail
 rw[←hW];clear hW
 go_wp2_with (first
  | (go_at_call 21;(with_reducible refine(KO.out _).mono ?_);rintro e1 w1 ⟨rfl,hb1⟩;have hx1:=bt HBW.out hb1;have B1:=blkP HB0.out hb1;clear x0 x1 x2 x3 x4 x5 x6 x7 x8 x9 x10 x11;obtain⟨x0,_⟩:=jb0 (B1) 0 _ rfl;obtain⟨x1,_⟩:=jb0 (B1) 1 _ rfl;obtain⟨x2,_⟩:=jb0 (B1) 2 _ rfl;obtain⟨x3,_⟩:=jb0 (B1) 3 _ rfl;obtain⟨x4,_⟩:=jb0 (B1) 4 _ rfl;obtain⟨x5,_⟩:=jb0 (B1) 5 _ rfl;obtain⟨x6,_⟩:=jb0 (B1) 6 _ rfl;obtain⟨x7,_⟩:=jb0 (B1) 7 _ rfl;obtain⟨x8,_⟩:=jb0 (B1) 8 _ rfl;obtain⟨x9,_⟩:=jb0 (B1) 9 _ rfl;obtain⟨x10,_⟩:=jb0 (B1) 10 _ rfl;obtain⟨x11,_⟩:=jb0 (B1) 11 _ rfl)
  | (go_at_call 22;(with_reducible refine(KC.out _ hx1).mono ?_);rintro e2 w2 ⟨rfl,hb2⟩;have hx2:=bt hx1 hb2;have B2:=blkP B1 hb2;clear x0 x1 x2 x3 x4 x5 x6 x7 x8 x9 x10 x11;obtain⟨x0,_⟩:=jb0 (B2) 0 _ rfl;obtain⟨x1,_⟩:=jb0 (B2) 1 _ rfl;obtain⟨x2,_⟩:=jb0 (B2) 2 _ rfl;obtain⟨x3,_⟩:=jb0 (B2) 3 _ rfl;obtain⟨x4,_⟩:=jb0 (B2) 4 _ rfl;obtain⟨x5,_⟩:=jb0 (B2) 5 _ rfl;obtain⟨x6,_⟩:=jb0 (B2) 6 _ rfl;obtain⟨x7,_⟩:=jb0 (B2) 7 _ rfl;obtain⟨x8,_⟩:=jb0 (B2) 8 _ rfl;obtain⟨x9,_⟩:=jb0 (B2) 9 _ rfl;obtain⟨x10,_⟩:=jb0 (B2) 10 _ rfl;obtain⟨x11,_⟩:=jb0 (B2) 11 _ rfl)
  | (go_at_call 23;(with_reducible refine(KX.out _).mono ?_);rintro e3 w3 ⟨rfl,rfl⟩)
  | fail)
 have HX2:=Lib.hid hx2;have HB2:=Lib.hid B2;clear hx1 hx2 B1 B2 hb1 hb2;clear x0 x1 x2 x3 x4 x5 x6 x7 x8 x9 x10 x11
 go_loopw [6] (fun iv wr=>∃i:Nat,iv=.int .i64 (i:Int)∧i≤n∧Hid (soundF s.first.se (s.sound.drop i) i=R)∧Hid (wr.heap[w.heap.size]?=some (.cells #[.int .i64 s.first.fl.toNat,.int .u64 s.first.po,.int .u64 s.first.se,.int .u64 0,.string s.first.la,.string s.first.bo,.string ⟨#[]⟩,.string s.b.vt,.int .i64 s.b.vs,.slice an s.b.ns.length cn,.string s.setup,.slice as_ n cs_] 48 (0,0)))∧Hid (Below w.heap.size w wr)) (fun iv _=>n-(intOf iv).toNat)
 case atStart=>exact⟨0,rfl,Nat.zero_le _,Lib.hid (by rw[List.drop_zero];exact HR.out.symm),HB2,HX2⟩
 case round=>
  obtain⟨i,rfl,hi,HP,HBB,HB⟩:=hrel;obtain⟨x0,_⟩:=jb0 (HBB.out) 0 _ rfl;obtain⟨x1,_⟩:=jb0 (HBB.out) 1 _ rfl;obtain⟨x2,_⟩:=jb0 (HBB.out) 2 _ rfl;obtain⟨x3,_⟩:=jb0 (HBB.out) 3 _ rfl;obtain⟨x4,_⟩:=jb0 (HBB.out) 4 _ rfl;obtain⟨x5,_⟩:=jb0 (HBB.out) 5 _ rfl;obtain⟨x6,_⟩:=jb0 (HBB.out) 6 _ rfl;obtain⟨x7,_⟩:=jb0 (HBB.out) 7 _ rfl;obtain⟨x8,_⟩:=jb0 (HBB.out) 8 _ rfl;obtain⟨x9,_⟩:=jb0 (HBB.out) 9 _ rfl;obtain⟨x10,_⟩:=jb0 (HBB.out) 10 _ rfl;obtain⟨x11,_⟩:=jb0 (HBB.out) 11 _ rfl;by_cases hlt:i<n
  · obtain⟨p,hp⟩:=jb6 s.sound i (by rw[←HN.out];exact hlt)
    obtain⟨g,o,rfl,d0,d1,d2,d3,d4,d5⟩:=qq9 HC.out i p hp;have d0:=kc HB.out d0;have d1:=kc HB.out d1;have d2:=kc HB.out d2;have d3:=kc HB.out d3;have d4:=kc HB.out d4;have d5:=kc HB.out d5;obtain⟨s1,s2⟩:=HSZ.out p (List.mem_of_getElem? hp);have hP:=HP.out;obtain⟨hp1,hp2⟩:=List.getElem?_eq_some_iff.1 hp;rw[List.drop_eq_getElem_cons hp1,hp2,soundF]at hP;have k17:=fun w=>qz2 p w s1
    have m0:(0:Int)≤(i:Int):=by omega
    have m1:(i:Int)<(n:Int):=by omega
    have hfn:=p.fl.toNat_lt;have hfG:firstG p=(p.fl.toNat/2%2==1):=rfl;have hcG:contG p=(p.fl.toNat%2==1):=rfl;have f3:IntKind.i64.wrap ((p.fl.toNat:Int)/2)=(p.fl.toNat:Int)/2:=wi64 _ (by omega) (by omega);have f4:IntKind.i64.wrap (3+(i:Int))=3+(i:Int):=wi64 _ (by omega) (by omega);clear hp hp1 hp2 HP;by_cases hck:gcheckM p=0
    · rw[hck]at k17
      by_cases hse:p.se=s.first.se
      · have e1:((p.se:Int)==(s.first.se:Int))=true:=by rw[beq_iff_eq];omega
        have e1n:((p.se:Int) != (s.first.se:Int))=false:=by simp only[bne,e1,Bool.not_true]
        cases hfg:firstG p with
        | true=>
         rw[if_pos (.inr (.inr (.inl hfg)))]at hP;have e2:(p.fl.toNat:Int)/2%2=1:=by rw[hfg]at hfG;have:=beq_iff_eq.1 hfG.symm;omega
         have HX:=Lib.hid hP;have K17:=Lib.hid k17;clear k17;clear hP hck hse hfG hcG s1 s2
         go_wp2_with (first
          | (go_at_call 24;(with_reducible refine(K17.out _).mono ?_);rintro e5 w5 ⟨rfl,hb5⟩;have hx5:=bt (bal HB.out (.cells #[.int .i64 p.fl.toNat,.int .u64 p.po,.int .u64 p.se,.int .u64 p.nu,.string p.la,.string p.bo] 40)) hb5;have B5:=blkP (blkP HBB.out (bal (Below.refl _ _) (.cells #[.int .i64 p.fl.toNat,.int .u64 p.po,.int .u64 p.se,.int .u64 p.nu,.string p.la,.string p.bo] 40))) hb5;obtain⟨g0,g1,g2,g3,g4,g5⟩:=gvL (blkP (heap_alloc_new wr (.cells #[.int .i64 p.fl.toNat,.int .u64 p.po,.int .u64 p.se,.int .u64 p.nu,.string p.la,.string p.bo] 40)) hb5);clear x0 x1 x2 x3 x4 x5 x6 x7 x8 x9 x10 x11;obtain⟨x0,_⟩:=jb0 (B5) 0 _ rfl;obtain⟨x1,_⟩:=jb0 (B5) 1 _ rfl;obtain⟨x2,_⟩:=jb0 (B5) 2 _ rfl;obtain⟨x3,_⟩:=jb0 (B5) 3 _ rfl;obtain⟨x4,_⟩:=jb0 (B5) 4 _ rfl;obtain⟨x5,_⟩:=jb0 (B5) 5 _ rfl;obtain⟨x6,_⟩:=jb0 (B5) 6 _ rfl;obtain⟨x7,_⟩:=jb0 (B5) 7 _ rfl;obtain⟨x8,_⟩:=jb0 (B5) 8 _ rfl;obtain⟨x9,_⟩:=jb0 (B5) 9 _ rfl;obtain⟨x10,_⟩:=jb0 (B5) 10 _ rfl;obtain⟨x11,_⟩:=jb0 (B5) 11 _ rfl)
          | fail)
         go_ret2
         exact⟨by rw[←HX.out];rfl,hx5⟩
        | false=>
         have e2:(p.fl.toNat:Int)/2%2=0:=by rw[hfg]at hfG;have:=beq_eq_false_iff_ne.1 hfG.symm;omega
         by_cases hi0:i=0
         · subst hi0
           simp only[Nat.zero_mul,Nat.add_zero]at d0 d1 d2 d3 d4 d5;have e3:(((0:Nat):Int)==0)=true:=rfl;cases hcg:contG p with
           | true=>
            rw[if_pos (.inr (.inr (.inr ⟨rfl,hcg⟩)))]at hP;have e4:(p.fl.toNat:Int)%2=1:=by rw[hcg]at hcG;have:=beq_iff_eq.1 hcG.symm;omega
            have HX:=Lib.hid hP;have K17:=Lib.hid k17;clear k17;clear hP hck hse hfG hcG s1 s2
            go_wp2_with (first
                          | (go_at_call 24;(with_reducible refine(K17.out _).mono ?_);rintro e5 w5 ⟨rfl,hb5⟩;have hx5:=bt (bal HB.out (.cells #[.int .i64 p.fl.toNat,.int .u64 p.po,.int .u64 p.se,.int .u64 p.nu,.string p.la,.string p.bo] 40)) hb5;have B5:=blkP (blkP HBB.out (bal (Below.refl _ _) (.cells #[.int .i64 p.fl.toNat,.int .u64 p.po,.int .u64 p.se,.int .u64 p.nu,.string p.la,.string p.bo] 40))) hb5;obtain⟨g0,g1,g2,g3,g4,g5⟩:=gvL (blkP (heap_alloc_new wr (.cells #[.int .i64 p.fl.toNat,.int .u64 p.po,.int .u64 p.se,.int .u64 p.nu,.string p.la,.string p.bo] 40)) hb5);clear x0 x1 x2 x3 x4 x5 x6 x7 x8 x9 x10 x11;obtain⟨x0,_⟩:=jb0 (B5) 0 _ rfl;obtain⟨x1,_⟩:=jb0 (B5) 1 _ rfl;obtain⟨x2,_⟩:=jb0 (B5) 2 _ rfl;obtain⟨x3,_⟩:=jb0 (B5) 3 _ rfl;obtain⟨x4,_⟩:=jb0 (B5) 4 _ rfl;obtain⟨x5,_⟩:=jb0 (B5) 5 _ rfl;obtain⟨x6,_⟩:=jb0 (B5) 6 _ rfl;obtain⟨x7,_⟩:=jb0 (B5) 7 _ rfl;obtain⟨x8,_⟩:=jb0 (B5) 8 _ rfl;obtain⟨x9,_⟩:=jb0 (B5) 9 _ rfl;obtain⟨x10,_⟩:=jb0 (B5) 10 _ rfl;obtain⟨x11,_⟩:=jb0 (B5) 11 _ rfl)
                          | fail)
            go_ret2
            exact⟨by rw[←HX.out];rfl,hx5⟩
           | false=>
            rw[if_neg (by rintro(h|h|h|h);exact h hck;exact h hse;(rw[hfg]at h;cases h);(rw[hcg]at h;cases h.2))]at hP;have e4:(p.fl.toNat:Int)%2=0:=by rw[hcg]at hcG;have:=beq_eq_false_iff_ne.1 hcG.symm;omega
            have HX:=Lib.hid hP;have K17:=Lib.hid k17;clear k17;clear hP hck hse hfG hcG s1 s2
            go_wp2_with (first
                          | (go_at_call 24;(with_reducible refine(K17.out _).mono ?_);rintro e5 w5 ⟨rfl,hb5⟩;have hx5:=bt (bal HB.out (.cells #[.int .i64 p.fl.toNat,.int .u64 p.po,.int .u64 p.se,.int .u64 p.nu,.string p.la,.string p.bo] 40)) hb5;have B5:=blkP (blkP HBB.out (bal (Below.refl _ _) (.cells #[.int .i64 p.fl.toNat,.int .u64 p.po,.int .u64 p.se,.int .u64 p.nu,.string p.la,.string p.bo] 40))) hb5;obtain⟨g0,g1,g2,g3,g4,g5⟩:=gvL (blkP (heap_alloc_new wr (.cells #[.int .i64 p.fl.toNat,.int .u64 p.po,.int .u64 p.se,.int .u64 p.nu,.string p.la,.string p.bo] 40)) hb5);clear x0 x1 x2 x3 x4 x5 x6 x7 x8 x9 x10 x11;obtain⟨x0,_⟩:=jb0 (B5) 0 _ rfl;obtain⟨x1,_⟩:=jb0 (B5) 1 _ rfl;obtain⟨x2,_⟩:=jb0 (B5) 2 _ rfl;obtain⟨x3,_⟩:=jb0 (B5) 3 _ rfl;obtain⟨x4,_⟩:=jb0 (B5) 4 _ rfl;obtain⟨x5,_⟩:=jb0 (B5) 5 _ rfl;obtain⟨x6,_⟩:=jb0 (B5) 6 _ rfl;obtain⟨x7,_⟩:=jb0 (B5) 7 _ rfl;obtain⟨x8,_⟩:=jb0 (B5) 8 _ rfl;obtain⟨x9,_⟩:=jb0 (B5) 9 _ rfl;obtain⟨x10,_⟩:=jb0 (B5) 10 _ rfl;obtain⟨x11,_⟩:=jb0 (B5) 11 _ rfl)
                          | fail)
            exact⟨⟨0+1,by go_num,by omega,HX,Lib.hid B5,Lib.hid hx5⟩,by simp[intOf];omega⟩
         · rw[if_neg (by rintro(h|h|h|h);exact h hck;exact h hse;(rw[hfg]at h;cases h);exact hi0 h.1)]at hP
           have e3:((i:Int)==0)=false:=by rw[beq_eq_false_iff_ne];omega
           have e3':decide (i=0)=false:=decide_eq_false hi0;have e3'':(i==0)=false:=by simpa using hi0
           have HX:=Lib.hid hP;have K17:=Lib.hid k17;clear k17;clear hP hck hse hfG hcG s1 s2
           go_wp2_with (first
            | (go_at_call 24;(with_reducible refine(K17.out _).mono ?_);rintro e5 w5 ⟨rfl,hb5⟩;have hx5:=bt (bal HB.out (.cells #[.int .i64 p.fl.toNat,.int .u64 p.po,.int .u64 p.se,.int .u64 p.nu,.string p.la,.string p.bo] 40)) hb5;have B5:=blkP (blkP HBB.out (bal (Below.refl _ _) (.cells #[.int .i64 p.fl.toNat,.int .u64 p.po,.int .u64 p.se,.int .u64 p.nu,.string p.la,.string p.bo] 40))) hb5;obtain⟨g0,g1,g2,g3,g4,g5⟩:=gvL (blkP (heap_alloc_new wr (.cells #[.int .i64 p.fl.toNat,.int .u64 p.po,.int .u64 p.se,.int .u64 p.nu,.string p.la,.string p.bo] 40)) hb5);clear x0 x1 x2 x3 x4 x5 x6 x7 x8 x9 x10 x11;obtain⟨x0,_⟩:=jb0 (B5) 0 _ rfl;obtain⟨x1,_⟩:=jb0 (B5) 1 _ rfl;obtain⟨x2,_⟩:=jb0 (B5) 2 _ rfl;obtain⟨x3,_⟩:=jb0 (B5) 3 _ rfl;obtain⟨x4,_⟩:=jb0 (B5) 4 _ rfl;obtain⟨x5,_⟩:=jb0 (B5) 5 _ rfl;obtain⟨x6,_⟩:=jb0 (B5) 6 _ rfl;obtain⟨x7,_⟩:=jb0 (B5) 7 _ rfl;obtain⟨x8,_⟩:=jb0 (B5) 8 _ rfl;obtain⟨x9,_⟩:=jb0 (B5) 9 _ rfl;obtain⟨x10,_⟩:=jb0 (B5) 10 _ rfl;obtain⟨x11,_⟩:=jb0 (B5) 11 _ rfl)
            | fail)
           exact⟨⟨i+1,by go_num,by omega,HX,Lib.hid B5,Lib.hid hx5⟩,by simp[intOf];omega⟩
      · rw[if_pos (.inr (.inl hse))]at hP
        have e1:((p.se:Int)==(s.first.se:Int))=false:=by rw[beq_eq_false_iff_ne];omega
        have e1n:((p.se:Int) != (s.first.se:Int))=true:=by simp only[bne,e1,Bool.not_false]
        have HX:=Lib.hid hP;have K17:=Lib.hid k17;clear k17;clear hP hck hse hfG hcG s1 s2
        go_wp2_with (first
         | (go_at_call 24;(with_reducible refine(K17.out _).mono ?_);rintro e5 w5 ⟨rfl,hb5⟩;have hx5:=bt (bal HB.out (.cells #[.int .i64 p.fl.toNat,.int .u64 p.po,.int .u64 p.se,.int .u64 p.nu,.string p.la,.string p.bo] 40)) hb5;have B5:=blkP (blkP HBB.out (bal (Below.refl _ _) (.cells #[.int .i64 p.fl.toNat,.int .u64 p.po,.int .u64 p.se,.int .u64 p.nu,.string p.la,.string p.bo] 40))) hb5;obtain⟨g0,g1,g2,g3,g4,g5⟩:=gvL (blkP (heap_alloc_new wr (.cells #[.int .i64 p.fl.toNat,.int .u64 p.po,.int .u64 p.se,.int .u64 p.nu,.string p.la,.string p.bo] 40)) hb5);clear x0 x1 x2 x3 x4 x5 x6 x7 x8 x9 x10 x11;obtain⟨x0,_⟩:=jb0 (B5) 0 _ rfl;obtain⟨x1,_⟩:=jb0 (B5) 1 _ rfl;obtain⟨x2,_⟩:=jb0 (B5) 2 _ rfl;obtain⟨x3,_⟩:=jb0 (B5) 3 _ rfl;obtain⟨x4,_⟩:=jb0 (B5) 4 _ rfl;obtain⟨x5,_⟩:=jb0 (B5) 5 _ rfl;obtain⟨x6,_⟩:=jb0 (B5) 6 _ rfl;obtain⟨x7,_⟩:=jb0 (B5) 7 _ rfl;obtain⟨x8,_⟩:=jb0 (B5) 8 _ rfl;obtain⟨x9,_⟩:=jb0 (B5) 9 _ rfl;obtain⟨x10,_⟩:=jb0 (B5) 10 _ rfl;obtain⟨x11,_⟩:=jb0 (B5) 11 _ rfl)
         | fail)
        go_ret2
        exact⟨by rw[←HX.out];rfl,hx5⟩
    · rw[if_pos (.inl hck)]at hP
      have hne:(gcheckM p != 0)=true:=by simpa using hck
      have hne2:¬gcheckM p=0:=hck;have HX:=Lib.hid hP;generalize gcheckM p=ck at *;have K17:=Lib.hid k17;clear k17;clear hP hck hfG hcG s1 s2
      go_wp2_with (first
       | (go_at_call 24;(with_reducible refine(K17.out _).mono ?_);rintro e5 w5 ⟨rfl,hb5⟩;have hx5:=bt (bal HB.out (.cells #[.int .i64 p.fl.toNat,.int .u64 p.po,.int .u64 p.se,.int .u64 p.nu,.string p.la,.string p.bo] 40)) hb5;have B5:=blkP (blkP HBB.out (bal (Below.refl _ _) (.cells #[.int .i64 p.fl.toNat,.int .u64 p.po,.int .u64 p.se,.int .u64 p.nu,.string p.la,.string p.bo] 40))) hb5;obtain⟨g0,g1,g2,g3,g4,g5⟩:=gvL (blkP (heap_alloc_new wr (.cells #[.int .i64 p.fl.toNat,.int .u64 p.po,.int .u64 p.se,.int .u64 p.nu,.string p.la,.string p.bo] 40)) hb5);clear x0 x1 x2 x3 x4 x5 x6 x7 x8 x9 x10 x11;obtain⟨x0,_⟩:=jb0 (B5) 0 _ rfl;obtain⟨x1,_⟩:=jb0 (B5) 1 _ rfl;obtain⟨x2,_⟩:=jb0 (B5) 2 _ rfl;obtain⟨x3,_⟩:=jb0 (B5) 3 _ rfl;obtain⟨x4,_⟩:=jb0 (B5) 4 _ rfl;obtain⟨x5,_⟩:=jb0 (B5) 5 _ rfl;obtain⟨x6,_⟩:=jb0 (B5) 6 _ rfl;obtain⟨x7,_⟩:=jb0 (B5) 7 _ rfl;obtain⟨x8,_⟩:=jb0 (B5) 8 _ rfl;obtain⟨x9,_⟩:=jb0 (B5) 9 _ rfl;obtain⟨x10,_⟩:=jb0 (B5) 10 _ rfl;obtain⟨x11,_⟩:=jb0 (B5) 11 _ rfl)
       | fail)
      go_ret2
      exact⟨by rw[←HX.out];rfl,hx5⟩
  · have hP:=HP.out
    rw[List.drop_of_length_le (by rw[←HN.out];omega),soundF]at hP;have m1:¬(i:Int)<(n:Int):=by omega
    have HX:=Lib.hid hP;clear hP
    go_wp2_with fail
    go_ret2
    exact⟨by rw[←HX.out];rfl,HB.out⟩
theorem kd5(vn vs:Value)(s:OS)(w:World)(hrow:RoRow w vn vs s)(hok:smOS s):
 Calls Tryz.prog 7 #[.agg (roC vn vs s)] w (RCPost (ocheckM s) w):=by
 cases ho:opensG s.first with
 | false=>exact rck_1 vn vs s w hrow hok ho
 | true=>
  by_cases hnu:s.first.nu=0
  · by_cases hcc:(checkM s.b).1=0
    · cases hp:preM (bl s.setup) (vorb 5)with
      | false=>exact rck_4 vn vs s w hrow hok ho hnu hcc hp
      | true=>exact rck_5 vn vs s w hrow hok ho hnu hcc hp
    · exact rck_3 vn vs s w hrow hok ho hnu hcc
  · exact rck_2 vn vs s w hrow hok ho hnu
end Go.Proofs.YtagjkmkmphamoaaGreatDoor
