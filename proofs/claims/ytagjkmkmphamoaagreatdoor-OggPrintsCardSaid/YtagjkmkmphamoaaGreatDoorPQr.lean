/- Qr -/
import Derived.Test.YtagjkmkmphamoaaGreatDoorPB7
set_option linter.all false
set_option maxHeartbeats 16000000
namespace Go.Proofs.YtagjkmkmphamoaaGreatDoor
open Go.RowKit
def smOS(s:OS):Prop:=smBk s.b∧(s.first.la.size≤1073741824∧s.first.bo.size≤1073741824)∧s.setup.size≤1073741824∧s.sound.length≤1900000∧∀p∈s.sound,p.la.size≤1073741824∧p.bo.size≤1073741824
def OsRow(w:World)(vn vs:Value)(s:OS):Prop:=Row w vn s.b.ns.length (ntcells s.b.ns)∧Row w vs s.sound.length (gcells s.sound)
theorem OsRow.keep{w w':World}{vn vs:Value}{s:OS}(h:OsRow w vn vs s)(hb:Below w.heap.size w w'):OsRow w' vn vs s:=⟨h.1.keep hb,h.2.keep hb⟩
abbrev osC(vn vs:Value)(s:OS):Array Value:=#[.int .u8 s.first.fl.toNat,.int .u64 s.first.po,.int .u32 s.first.se,.int .u32 s.first.nu,.string s.first.la,.string s.first.bo,.string s.b.vt,.int .i64 s.b.vs,vn,.string s.setup,vs]
def CheckPost(R:Int×Int)(w:World)(e:Ending)(w':World):Prop:=e=.returned (.agg #[.int .i64 R.1,.int .i64 R.2])∧Below w.heap.size w w'
structure CS (w:World) (cs:Array Value) (wr:World):Prop where
 gg:Below w.heap.size w wr
 bx:wr.heap[w.heap.size]?=some (.cells cs 36 (0,0))
 rt:wr.heap[w.heap.size+1]?=some (.cells #[.int .i64 0,.int .i64 0] 54 (0,0))
theorem CS.bel{w wr:World}{cs:Array Value}(h:CS w cs wr){w':World}(hb:Below wr.heap.size wr w'):CS w cs w':=⟨bt h.gg hb,blkP h.bx hb,blkP h.rt hb⟩
theorem CS.cell{w wr:World}{cs:Array Value}(h:CS w cs wr)(i:Nat)(v:Value)(hi:cs[i]?=some v):wr.cell? ⟨w.heap.size,i,none⟩=some v:=(jb0 h.bx i v hi).1
theorem CS.ret{w wr:World}{cs:Array Value}(h:CS w cs wr):wr.cell? ⟨w.heap.size+1,0,none⟩=some (.int .i64 0)∧wr.frozen? ⟨w.heap.size+1,0,none⟩=false∧wr.cell? ⟨w.heap.size+1,1,none⟩=some (.int .i64 0)∧wr.frozen? ⟨w.heap.size+1,1,none⟩=false:=
 ⟨(jb0 h.rt 0 _ rfl).1,(jb0 h.rt 0 _ rfl).2,(jb0 h.rt 1 _ rfl).1,(jb0 h.rt 1 _ rfl).2⟩
theorem CS.post{w wr:World}{cs:Array Value}(h:CS w cs wr)(c a:Int):CheckPost (c,a) w (.returned (.agg #[.int .i64 c,.int .i64 a])) ((wr.setCell ⟨w.heap.size+1,0,none⟩ (.int .i64 c)).setCell ⟨w.heap.size+1,1,none⟩ (.int .i64 a)):=
 ⟨rfl,(h.gg.setCell (by simp) _).setCell (by simp) _⟩
theorem jj3(w:World)(cs:Array Value):∃W,W=(w.alloc (.cells cs 36)).alloc (.cells #[.int .i64 0,.int .i64 0] 54)∧CS w cs W:=by
 have hs1:(w.alloc (.cells cs 36)).heap.size=w.heap.size+1:=World.size_alloc _ _;refine⟨_,rfl,bal (bal (Below.refl _ _) _) _,?_,?_⟩
 · exact(heap_alloc_old _ _ (by rw[hs1];omega)).trans (heap_alloc_new _ _)
 · rw[←hs1];exact heap_alloc_new _ _
set_option maxRecDepth 100000 in
theorem vz2(vn vs:Value)(s:OS)(w:World)(hT:TW w)(hrow:OsRow w vn vs s)(hok:smOS s)(ho:opensG s.first=false):
 Calls Tryz.prog 11 #[.agg #[.int .u8 s.first.fl.toNat,.int .u64 s.first.po,.int .u32 s.first.se,.int .u32 s.first.nu,.string s.first.la,.string s.first.bo,.string s.b.vt,.int .i64 s.b.vs,vn,.string s.setup,vs]] w (CheckPost (5,0) w):=by
 obtain⟨W,hW,C⟩:=jj3 w (osC vn vs s);have ko:∀w,Calls Tryz.prog 29 #[gV s.first] w fun e w'=>e=.returned (.bool (opensG s.first))∧Below w.heap.size w w':=fun w=>jf4 s.first w hok.2.1.1 hok.2.1.2
 unfold gV at ko;rw[ho]at ko;clear hrow hok;have KO:=Lib.hid ko;clear ko;obtain⟨x0,x1,x2,x3,x4,x5,x6,x7,x8,x9,x10⟩:_∧_∧_∧_∧_∧_∧_∧_∧_∧_∧_:=⟨C.cell 0 _ rfl,C.cell 1 _ rfl,C.cell 2 _ rfl,C.cell 3 _ rfl,C.cell 4 _ rfl,C.cell 5 _ rfl,C.cell 6 _ rfl,C.cell 7 _ rfl,C.cell 8 _ rfl,C.cell 9 _ rfl,C.cell 10 _ rfl⟩;obtain⟨q0,q0',q1,q1'⟩:=C.ret
 go_enter Tryz.func11,Tryz.ntmps11
 go_wp2_with fail
 rw[←hW];clear hW
 go_wp2_with (first
  | (go_at_call 29;(with_reducible refine(KO.out _).mono ?_);rintro e1 w1 ⟨rfl,hb1⟩;replace C:=C.bel hb1;clear hb1 q0 q0' q1 q1' x0 x1 x2 x3 x4 x5 x6 x7 x8 x9 x10;obtain⟨x0,x1,x2,x3,x4,x5,x6,x7,x8,x9,x10⟩:_∧_∧_∧_∧_∧_∧_∧_∧_∧_∧_:=⟨C.cell 0 _ rfl,C.cell 1 _ rfl,C.cell 2 _ rfl,C.cell 3 _ rfl,C.cell 4 _ rfl,C.cell 5 _ rfl,C.cell 6 _ rfl,C.cell 7 _ rfl,C.cell 8 _ rfl,C.cell 9 _ rfl,C.cell 10 _ rfl⟩;obtain⟨q0,q0',q1,q1'⟩:=C.ret)
  | fail)
 refine bodyPost_ret (v:=.agg #[.int .i64 5,.int .i64 0]) (by simp[results,Tryz.results11,go_sem,q0,q0',q1,q1']) rfl ?_;exact C.post 5 0
set_option maxRecDepth 100000 in
theorem vz1(vn vs:Value)(s:OS)(w:World)(hT:TW w)(hrow:OsRow w vn vs s)(hok:smOS s)(ho:opensG s.first=true)(hn:s.first.nu≠0):
 Calls Tryz.prog 11 #[.agg #[.int .u8 s.first.fl.toNat,.int .u64 s.first.po,.int .u32 s.first.se,.int .u32 s.first.nu,.string s.first.la,.string s.first.bo,.string s.b.vt,.int .i64 s.b.vs,vn,.string s.setup,vs]] w (CheckPost (5,0) w):=by
 obtain⟨W,hW,C⟩:=jj3 w (osC vn vs s);have ko:∀w,Calls Tryz.prog 29 #[gV s.first] w fun e w'=>e=.returned (.bool (opensG s.first))∧Below w.heap.size w w':=fun w=>jf4 s.first w hok.2.1.1 hok.2.1.2
 unfold gV at ko;rw[ho]at ko;have h1:((s.first.nu:Int)==0)=false:=by rw[beq_eq_false_iff_ne];omega
 have h2:(s.first.nu==0)=false:=by rw[beq_eq_false_iff_ne];exact hn
 have h3:¬s.first.nu=0:=hn
 clear hrow hok hn;have KO:=Lib.hid ko;clear ko;obtain⟨x0,x1,x2,x3,x4,x5,x6,x7,x8,x9,x10⟩:_∧_∧_∧_∧_∧_∧_∧_∧_∧_∧_:=⟨C.cell 0 _ rfl,C.cell 1 _ rfl,C.cell 2 _ rfl,C.cell 3 _ rfl,C.cell 4 _ rfl,C.cell 5 _ rfl,C.cell 6 _ rfl,C.cell 7 _ rfl,C.cell 8 _ rfl,C.cell 9 _ rfl,C.cell 10 _ rfl⟩;obtain⟨q0,q0',q1,q1'⟩:=C.ret
 go_enter Tryz.func11,Tryz.ntmps11
 go_wp2_with fail
 rw[←hW];clear hW
 go_wp2_with (first
  | (go_at_call 29;(with_reducible refine(KO.out _).mono ?_);rintro e1 w1 ⟨rfl,hb1⟩;replace C:=C.bel hb1;clear hb1 q0 q0' q1 q1' x0 x1 x2 x3 x4 x5 x6 x7 x8 x9 x10;obtain⟨x0,x1,x2,x3,x4,x5,x6,x7,x8,x9,x10⟩:_∧_∧_∧_∧_∧_∧_∧_∧_∧_∧_:=⟨C.cell 0 _ rfl,C.cell 1 _ rfl,C.cell 2 _ rfl,C.cell 3 _ rfl,C.cell 4 _ rfl,C.cell 5 _ rfl,C.cell 6 _ rfl,C.cell 7 _ rfl,C.cell 8 _ rfl,C.cell 9 _ rfl,C.cell 10 _ rfl⟩;obtain⟨q0,q0',q1,q1'⟩:=C.ret)
  | fail)
 refine bodyPost_ret (v:=.agg #[.int .i64 5,.int .i64 0]) (by simp[results,Tryz.results11,go_sem,q0,q0',q1,q1']) rfl ?_;exact C.post 5 0
set_option maxRecDepth 100000 in
theorem vz0(vn vs:Value)(s:OS)(w:World)(hT:TW w)(hrow:OsRow w vn vs s)(hok:smOS s)(ho:opensG s.first=true)(hn:s.first.nu=0)(hc:(checkM s.b).1≠0):
 Calls Tryz.prog 11 #[.agg #[.int .u8 s.first.fl.toNat,.int .u64 s.first.po,.int .u32 s.first.se,.int .u32 s.first.nu,.string s.first.la,.string s.first.bo,.string s.b.vt,.int .i64 s.b.vs,vn,.string s.setup,vs]] w (CheckPost ((checkM s.b).1,1) w):=by
 obtain⟨W,hW,C⟩:=jj3 w (osC vn vs s);have ko:∀w,Calls Tryz.prog 29 #[gV s.first] w fun e w'=>e=.returned (.bool (opensG s.first))∧Below w.heap.size w w':=fun w=>jf4 s.first w hok.2.1.1 hok.2.1.2
 unfold gV at ko;rw[ho]at ko;have h1:((s.first.nu:Int)==0)=true:=by rw[beq_iff_eq];omega
 have h2:(s.first.nu==0)=true:=by rw[beq_iff_eq];exact hn
 have kc:∀w',Below w.heap.size w w'→Calls Tryz.prog 30 #[.agg #[.string s.b.vt,.int .i64 s.b.vs,vn]] w' fun e w''=>e=.returned (.agg #[.int .i64 (checkM s.b).1,.int .i64 (checkM s.b).2])∧Below w'.heap.size w' w'':=fun w' hb=>jp4 vn s.b w' (hT.bel hb) (hrow.1.keep hb) hok.1
 have kb:=fun w=>jb8 (checkM s.b).1 (checkM s.b).2 w
 rw[show(!decide ((checkM s.b).1=0))=true by simpa using hc]at kb;generalize checkM s.b=CC at *;obtain⟨cc,ca⟩:=CC;simp only at kc kb ⊢;clear hrow hok hn hc;have KO:=Lib.hid ko;have KC:=Lib.hid kc;have KB:=Lib.hid kb;clear ko kc kb;obtain⟨x0,x1,x2,x3,x4,x5,x6,x7,x8,x9,x10⟩:_∧_∧_∧_∧_∧_∧_∧_∧_∧_∧_:=⟨C.cell 0 _ rfl,C.cell 1 _ rfl,C.cell 2 _ rfl,C.cell 3 _ rfl,C.cell 4 _ rfl,C.cell 5 _ rfl,C.cell 6 _ rfl,C.cell 7 _ rfl,C.cell 8 _ rfl,C.cell 9 _ rfl,C.cell 10 _ rfl⟩;obtain⟨q0,q0',q1,q1'⟩:=C.ret
 go_enter Tryz.func11,Tryz.ntmps11
 go_wp2_with fail
 rw[←hW];clear hW
 go_wp2_with (first
  | (go_at_call 29;(with_reducible refine(KO.out _).mono ?_);rintro e1 w1 ⟨rfl,hb1⟩;replace C:=C.bel hb1;clear hb1 q0 q0' q1 q1' x0 x1 x2 x3 x4 x5 x6 x7 x8 x9 x10;obtain⟨x0,x1,x2,x3,x4,x5,x6,x7,x8,x9,x10⟩:_∧_∧_∧_∧_∧_∧_∧_∧_∧_∧_:=⟨C.cell 0 _ rfl,C.cell 1 _ rfl,C.cell 2 _ rfl,C.cell 3 _ rfl,C.cell 4 _ rfl,C.cell 5 _ rfl,C.cell 6 _ rfl,C.cell 7 _ rfl,C.cell 8 _ rfl,C.cell 9 _ rfl,C.cell 10 _ rfl⟩;obtain⟨q0,q0',q1,q1'⟩:=C.ret)
  | (go_at_call 30;(with_reducible refine(KC.out _ C.gg).mono ?_);rintro e2 w2 ⟨rfl,hb2⟩;replace C:=(C.bel hb2).bel (bal (Below.refl _ _) (.cells #[.int .i64 cc,.int .i64 ca] 54));obtain⟨j0,_⟩:=Live.fresh w2 #[.int .i64 cc,.int .i64 ca] 54 0 _ rfl;obtain⟨j1,_⟩:=Live.fresh w2 #[.int .i64 cc,.int .i64 ca] 54 1 _ rfl;clear hb2 q0 q0' q1 q1' x0 x1 x2 x3 x4 x5 x6 x7 x8 x9 x10)
  | (go_at_call 16;(with_reducible refine(KB.out _).mono ?_);rintro e3 w3 ⟨rfl,hb3⟩;replace C:=C.bel hb3;replace j0:=kc hb3 j0;clear hb3 j1;obtain⟨x0,x1,x2,x3,x4,x5,x6,x7,x8,x9,x10⟩:_∧_∧_∧_∧_∧_∧_∧_∧_∧_∧_:=⟨C.cell 0 _ rfl,C.cell 1 _ rfl,C.cell 2 _ rfl,C.cell 3 _ rfl,C.cell 4 _ rfl,C.cell 5 _ rfl,C.cell 6 _ rfl,C.cell 7 _ rfl,C.cell 8 _ rfl,C.cell 9 _ rfl,C.cell 10 _ rfl⟩;obtain⟨q0,q0',q1,q1'⟩:=C.ret)
  | fail)
 refine bodyPost_ret (v:=.agg #[.int .i64 cc,.int .i64 1]) (by simp[results,Tryz.results11,go_sem,q0,q0',q1,q1']) rfl ?_;exact C.post cc 1
set_option maxRecDepth 100000 in
theorem vx9(vn vs:Value)(s:OS)(w:World)(hT:TW w)(hrow:OsRow w vn vs s)(hok:smOS s)(ho:opensG s.first=true)(hn:s.first.nu=0)(hc:(checkM s.b).1=0)(hp:preM (bl s.setup) (vorb 5)=false):
 Calls Tryz.prog 11 #[.agg #[.int .u8 s.first.fl.toNat,.int .u64 s.first.po,.int .u32 s.first.se,.int .u32 s.first.nu,.string s.first.la,.string s.first.bo,.string s.b.vt,.int .i64 s.b.vs,vn,.string s.setup,vs]] w (CheckPost (5,2) w):=by
 obtain⟨W,hW,C⟩:=jj3 w (osC vn vs s);have ko:∀w,Calls Tryz.prog 29 #[gV s.first] w fun e w'=>e=.returned (.bool (opensG s.first))∧Below w.heap.size w w':=fun w=>jf4 s.first w hok.2.1.1 hok.2.1.2
 unfold gV at ko;rw[ho]at ko;have h1:((s.first.nu:Int)==0)=true:=by rw[beq_iff_eq];omega
 have h2:(s.first.nu==0)=true:=by rw[beq_iff_eq];exact hn
 have kc:∀w',Below w.heap.size w w'→Calls Tryz.prog 30 #[.agg #[.string s.b.vt,.int .i64 s.b.vs,vn]] w' fun e w''=>e=.returned (.agg #[.int .i64 (checkM s.b).1,.int .i64 (checkM s.b).2])∧Below w'.heap.size w' w'':=fun w' hb=>jp4 vn s.b w' (hT.bel hb) (hrow.1.keep hb) hok.1
 have kb:=fun w=>jb8 (checkM s.b).1 (checkM s.b).2 w
 have kx:∀(w:World),Calls Tryz.prog 31 #[.string s.setup,.string ⟨#[5,118,111,114,98,105,115]⟩] w fun e w'=>e=.returned (.bool (preM (bl s.setup) (vorb 5)))∧w=w':=fun w=>(jn4 s.setup 5 w).mono fun e w' h=>⟨h.1,h.2.symm⟩
 rw[hp]at kx;rw[show(!decide ((checkM s.b).1=0))=false by simpa using hc]at kb;generalize checkM s.b=CC at *;obtain⟨cc,ca⟩:=CC;simp only at kc kb ⊢;clear hrow hok hn hc;have KO:=Lib.hid ko;have KC:=Lib.hid kc;have KB:=Lib.hid kb;have KX:=Lib.hid kx;clear ko kc kb kx;obtain⟨x0,x1,x2,x3,x4,x5,x6,x7,x8,x9,x10⟩:_∧_∧_∧_∧_∧_∧_∧_∧_∧_∧_:=⟨C.cell 0 _ rfl,C.cell 1 _ rfl,C.cell 2 _ rfl,C.cell 3 _ rfl,C.cell 4 _ rfl,C.cell 5 _ rfl,C.cell 6 _ rfl,C.cell 7 _ rfl,C.cell 8 _ rfl,C.cell 9 _ rfl,C.cell 10 _ rfl⟩;obtain⟨q0,q0',q1,q1'⟩:=C.ret
 go_enter Tryz.func11,Tryz.ntmps11
 go_wp2_with fail
 rw[←hW];clear hW
 go_wp2_with (first
  | (go_at_call 29;(with_reducible refine(KO.out _).mono ?_);rintro e1 w1 ⟨rfl,hb1⟩;replace C:=C.bel hb1;clear hb1 q0 q0' q1 q1' x0 x1 x2 x3 x4 x5 x6 x7 x8 x9 x10;obtain⟨x0,x1,x2,x3,x4,x5,x6,x7,x8,x9,x10⟩:_∧_∧_∧_∧_∧_∧_∧_∧_∧_∧_:=⟨C.cell 0 _ rfl,C.cell 1 _ rfl,C.cell 2 _ rfl,C.cell 3 _ rfl,C.cell 4 _ rfl,C.cell 5 _ rfl,C.cell 6 _ rfl,C.cell 7 _ rfl,C.cell 8 _ rfl,C.cell 9 _ rfl,C.cell 10 _ rfl⟩;obtain⟨q0,q0',q1,q1'⟩:=C.ret)
  | (go_at_call 30;(with_reducible refine(KC.out _ C.gg).mono ?_);rintro e2 w2 ⟨rfl,hb2⟩;replace C:=(C.bel hb2).bel (bal (Below.refl _ _) (.cells #[.int .i64 cc,.int .i64 ca] 54));obtain⟨j0,_⟩:=Live.fresh w2 #[.int .i64 cc,.int .i64 ca] 54 0 _ rfl;obtain⟨j1,_⟩:=Live.fresh w2 #[.int .i64 cc,.int .i64 ca] 54 1 _ rfl;clear hb2 q0 q0' q1 q1' x0 x1 x2 x3 x4 x5 x6 x7 x8 x9 x10)
  | (go_at_call 16;(with_reducible refine(KB.out _).mono ?_);rintro e3 w3 ⟨rfl,hb3⟩;replace C:=C.bel hb3;replace j0:=kc hb3 j0;clear hb3 j1;obtain⟨x0,x1,x2,x3,x4,x5,x6,x7,x8,x9,x10⟩:_∧_∧_∧_∧_∧_∧_∧_∧_∧_∧_:=⟨C.cell 0 _ rfl,C.cell 1 _ rfl,C.cell 2 _ rfl,C.cell 3 _ rfl,C.cell 4 _ rfl,C.cell 5 _ rfl,C.cell 6 _ rfl,C.cell 7 _ rfl,C.cell 8 _ rfl,C.cell 9 _ rfl,C.cell 10 _ rfl⟩;obtain⟨q0,q0',q1,q1'⟩:=C.ret)
  | (go_at_call 31;(with_reducible refine(KX.out _).mono ?_);rintro e4 w4 ⟨rfl,rfl⟩)
  | fail)
 refine bodyPost_ret (v:=.agg #[.int .i64 5,.int .i64 2]) (by simp[results,Tryz.results11,go_sem,q0,q0',q1,q1']) rfl ?_;exact C.post 5 2
set_option maxRecDepth 100000 in
theorem vx8(vn vs:Value)(s:OS)(w:World)(hT:TW w)(hrow:OsRow w vn vs s)(hok:smOS s)(ho:opensG s.first=true)(hn:s.first.nu=0)(hc:(checkM s.b).1=0)(hp:preM (bl s.setup) (vorb 5)=true):
 Calls Tryz.prog 11 #[.agg #[.int .u8 s.first.fl.toNat,.int .u64 s.first.po,.int .u32 s.first.se,.int .u32 s.first.nu,.string s.first.la,.string s.first.bo,.string s.b.vt,.int .i64 s.b.vs,vn,.string s.setup,vs]] w (CheckPost (soundF s.first.se s.sound 0) w):=by
 obtain⟨W,hW,C⟩:=jj3 w (osC vn vs s);have ko:∀w,Calls Tryz.prog 29 #[gV s.first] w fun e w'=>e=.returned (.bool (opensG s.first))∧Below w.heap.size w w':=fun w=>jf4 s.first w hok.2.1.1 hok.2.1.2
 unfold gV at ko;rw[ho]at ko;have h1:((s.first.nu:Int)==0)=true:=by rw[beq_iff_eq];omega
 have h2:(s.first.nu==0)=true:=by rw[beq_iff_eq];exact hn
 have kc:∀w',Below w.heap.size w w'→Calls Tryz.prog 30 #[.agg #[.string s.b.vt,.int .i64 s.b.vs,vn]] w' fun e w''=>e=.returned (.agg #[.int .i64 (checkM s.b).1,.int .i64 (checkM s.b).2])∧Below w'.heap.size w' w'':=fun w' hb=>jp4 vn s.b w' (hT.bel hb) (hrow.1.keep hb) hok.1
 have kb:=fun w=>jb8 (checkM s.b).1 (checkM s.b).2 w
 have kx:∀(w:World),Calls Tryz.prog 31 #[.string s.setup,.string ⟨#[5,118,111,114,98,105,115]⟩] w fun e w'=>e=.returned (.bool (preM (bl s.setup) (vorb 5)))∧w=w':=fun w=>(jn4 s.setup 5 w).mono fun e w' h=>⟨h.1,h.2.symm⟩
 rw[hp]at kx;rw[show(!decide ((checkM s.b).1=0))=false by simpa using hc]at kb;generalize checkM s.b=CC at *;obtain⟨cc,ca⟩:=CC;simp only at kc kb ⊢;obtain⟨av,cap,hvs,hcv⟩:=hrow.2;have hsm:=hok.2.2.2.2;have hsl:=hok.2.2.2.1;generalize s.sound=l at *;obtain⟨n,hn'⟩:∃n,n=l.length:=⟨_,rfl⟩;rw[←hn']at hvs hsl;subst hvs;obtain⟨R,hR⟩:∃R,R=soundF s.first.se l 0:=⟨_,rfl⟩
 rw[←hR];clear hrow hok hn hc ho hp;have KO:=Lib.hid ko;have KC:=Lib.hid kc;have KB:=Lib.hid kb;have KX:=Lib.hid kx;have HCV:=Lib.hid hcv;have HSM:=Lib.hid hsm;have HN:=Lib.hid hn';have HR:=Lib.hid hR;clear ko kc kb kx hcv hsm hn' hR;obtain⟨x0,x1,x2,x3,x4,x5,x6,x7,x8,x9,x10⟩:_∧_∧_∧_∧_∧_∧_∧_∧_∧_∧_:=⟨C.cell 0 _ rfl,C.cell 1 _ rfl,C.cell 2 _ rfl,C.cell 3 _ rfl,C.cell 4 _ rfl,C.cell 5 _ rfl,C.cell 6 _ rfl,C.cell 7 _ rfl,C.cell 8 _ rfl,C.cell 9 _ rfl,C.cell 10 _ rfl⟩;obtain⟨q0,q0',q1,q1'⟩:=C.ret
 go_enter Tryz.func11,Tryz.ntmps11
 go_wp2_with fail
 rw[←hW];clear hW
 go_wp2_with (first
  | (go_at_call 29;(with_reducible refine(KO.out _).mono ?_);rintro e1 w1 ⟨rfl,hb1⟩;replace C:=C.bel hb1;clear hb1 q0 q0' q1 q1' x0 x1 x2 x3 x4 x5 x6 x7 x8 x9 x10;obtain⟨x0,x1,x2,x3,x4,x5,x6,x7,x8,x9,x10⟩:_∧_∧_∧_∧_∧_∧_∧_∧_∧_∧_:=⟨C.cell 0 _ rfl,C.cell 1 _ rfl,C.cell 2 _ rfl,C.cell 3 _ rfl,C.cell 4 _ rfl,C.cell 5 _ rfl,C.cell 6 _ rfl,C.cell 7 _ rfl,C.cell 8 _ rfl,C.cell 9 _ rfl,C.cell 10 _ rfl⟩;obtain⟨q0,q0',q1,q1'⟩:=C.ret)
  | (go_at_call 30;(with_reducible refine(KC.out _ C.gg).mono ?_);rintro e2 w2 ⟨rfl,hb2⟩;replace C:=(C.bel hb2).bel (bal (Below.refl _ _) (.cells #[.int .i64 cc,.int .i64 ca] 54));obtain⟨j0,_⟩:=Live.fresh w2 #[.int .i64 cc,.int .i64 ca] 54 0 _ rfl;obtain⟨j1,_⟩:=Live.fresh w2 #[.int .i64 cc,.int .i64 ca] 54 1 _ rfl;clear hb2 q0 q0' q1 q1' x0 x1 x2 x3 x4 x5 x6 x7 x8 x9 x10)
  | (go_at_call 16;(with_reducible refine(KB.out _).mono ?_);rintro e3 w3 ⟨rfl,hb3⟩;replace C:=C.bel hb3;replace j0:=kc hb3 j0;clear hb3 j1;obtain⟨x0,x1,x2,x3,x4,x5,x6,x7,x8,x9,x10⟩:_∧_∧_∧_∧_∧_∧_∧_∧_∧_∧_:=⟨C.cell 0 _ rfl,C.cell 1 _ rfl,C.cell 2 _ rfl,C.cell 3 _ rfl,C.cell 4 _ rfl,C.cell 5 _ rfl,C.cell 6 _ rfl,C.cell 7 _ rfl,C.cell 8 _ rfl,C.cell 9 _ rfl,C.cell 10 _ rfl⟩;obtain⟨q0,q0',q1,q1'⟩:=C.ret)
  | (go_at_call 31;(with_reducible refine(KX.out _).mono ?_);rintro e4 w4 ⟨rfl,rfl⟩)
  | fail)
 have HC0:=Lib.hid C;clear C j0 q0 q0' q1 q1' x0 x1 x2 x3 x4 x5 x6 x7 x8 x9 x10
 go_loopw [35] (fun iv wr=>∃i:Nat,iv=.int .i64 (i:Int)∧i≤n∧Hid (CS w (osC vn (.slice av n cap) s) wr)∧Hid (soundF s.first.se (l.drop i) i=R)) (fun iv _=>n-(intOf iv).toNat)
 case atStart=>exact⟨0,rfl,Nat.zero_le _,HC0,Lib.hid (by rw[List.drop_zero];exact HR.out.symm)⟩
 case round=>
  clear HC0;obtain⟨i,rfl,hi,HC,HP⟩:=hrel;by_cases hlt:i<n
  · obtain⟨p,hp⟩:=jb6 l i (by rw[←HN.out];exact hlt)
    obtain⟨gg,og,rfl,d0,d1,d2,d3,d4,d5⟩:=g_at HCV.out i p hp;replace d0:=kc HC.out.gg d0;replace d1:=kc HC.out.gg d1;replace d2:=kc HC.out.gg d2;replace d3:=kc HC.out.gg d3;replace d4:=kc HC.out.gg d4;replace d5:=kc HC.out.gg d5;obtain⟨s1,s2⟩:=HSM.out p (List.mem_of_getElem? hp);have hP:=HP.out;obtain⟨hp1,hp2⟩:=List.getElem?_eq_some_iff.1 hp;rw[List.drop_eq_getElem_cons hp1,hp2,soundF]at hP;have k1:=fun w=>kc5 p w s1 s2
    have k2:=fun w=>jb8 (gcheckM p) 0 w
    have k3:=fun w=>jx9 p w
    have k4:=fun w=>kc4 p w
    unfold gV at k1;unfold hV at k3 k4;generalize gcheckM p=ck at *;generalize contG p=cg at *;generalize firstG p=fg at *;have m0:(0:Int)≤(i:Int):=by omega
    have m1:(i:Int)<(n:Int):=by omega
    have hw1:IntKind.i64.wrap ((i:Int)+1)=(i:Int)+1:=wi64 _ (by omega) (by omega);have hw3:IntKind.i64.wrap (3+(i:Int))=3+(i:Int):=wi64 _ (by omega) (by omega);obtain⟨fl,po,se,nu,la,bo⟩:=p;simp only at d0 d1 d2 d3 d4 d5 k1 k3 k4 hP;generalize (fl.toNat:Int)=f at *;have C:=HC.out.bel (bal (Below.refl wr.heap.size wr) (.cells #[.int .u8 f,.int .u64 po,.int .u32 se,.int .u32 nu,.string la,.string bo] 27));have B:=heap_alloc_new wr (.cells #[.int .u8 f,.int .u64 po,.int .u32 se,.int .u32 nu,.string la,.string bo] 27);obtain⟨sf,hsf⟩:∃sf,sf=s.first.se:=⟨_,rfl⟩
    have CX:=C.cell 2 _ rfl;have K1:=Lib.hid k1;have K2:=Lib.hid k2;have K3:=Lib.hid k3;have K4:=Lib.hid k4;clear k1 k2 k3 k4;clear hp hp1 hp2 HP s1 s2 CX hsf sf;by_cases hi0:i=0
    · have b0:((i:Int)==0)=true:=by rw[beq_iff_eq];omega
      have b0n:(i==0)=true:=by rw[beq_iff_eq];exact hi0
      have HI0:=Lib.hid hi0;clear hi0;by_cases hck:ck=0
      · rw[hck]at K1 K2
        have K2':=K2.out;rw[show(!decide ((0:Int)=0))=false from rfl]at K2';clear K2;have K2:=Lib.hid K2';clear K2';by_cases hse:se=s.first.se
        · subst hse
          cases fg with
          | true=>
           rw[if_pos (.inr (.inr (.inl rfl)))]at hP;have HX:Hid (R=(5,3+(i:Int))):=Lib.hid hP.symm;clear hP hck
           go_wp2_with (first
            | (go_at_call 32;(with_reducible refine(K3.out _).mono ?_);rintro e5 w5 ⟨rfl,hb5⟩;replace C:=C.bel hb5;replace B:=blkP B hb5;clear hb5;obtain⟨p0,p1,p2,p3,p4,p5⟩:=gvL B;have x2:=C.cell 2 _ rfl;obtain⟨q0,q0',q1,q1'⟩:=C.ret)
            | (go_at_call 33;(with_reducible refine(K1.out _).mono ?_);rintro e6 w6 ⟨rfl,hb6⟩;replace C:=C.bel hb6;replace B:=blkP B hb6;clear hb6;obtain⟨p0,p1,p2,p3,p4,p5⟩:=gvL B;have x2:=C.cell 2 _ rfl;obtain⟨q0,q0',q1,q1'⟩:=C.ret)
            | (go_at_call 16;(with_reducible refine(K2.out _).mono ?_);rintro e7 w7 ⟨rfl,hb7⟩;replace C:=C.bel hb7;replace B:=blkP B hb7;clear hb7;obtain⟨p0,p1,p2,p3,p4,p5⟩:=gvL B;have x2:=C.cell 2 _ rfl;obtain⟨q0,q0',q1,q1'⟩:=C.ret)
            | (go_at_call 32;(with_reducible refine(K4.out _).mono ?_);rintro e8 w8 ⟨rfl,hb8⟩;replace C:=C.bel hb8;replace B:=blkP B hb8;clear hb8;obtain⟨p0,p1,p2,p3,p4,p5⟩:=gvL B;have x2:=C.cell 2 _ rfl;obtain⟨q0,q0',q1,q1'⟩:=C.ret)
            | fail)
           refine bodyPost_ret (v:=.agg #[.int .i64 5,.int .i64 (3+(i:Int))]) (by simp[results,Tryz.results11,go_sem,q0,q0',q1,q1']) rfl ?_;rw[HX.out];exact C.post 5 (3+(i:Int))
          | false=>
           cases cg with
           | true=>
            rw[if_pos (.inr (.inr (.inr ⟨HI0.out,rfl⟩)))]at hP;have HX:Hid (R=(5,3+(i:Int))):=Lib.hid hP.symm;clear hP hck
            go_wp2_with (first
             | (go_at_call 32;(with_reducible refine(K3.out _).mono ?_);rintro e5 w5 ⟨rfl,hb5⟩;replace C:=C.bel hb5;replace B:=blkP B hb5;clear hb5;obtain⟨p0,p1,p2,p3,p4,p5⟩:=gvL B;have x2:=C.cell 2 _ rfl;obtain⟨q0,q0',q1,q1'⟩:=C.ret)
             | (go_at_call 33;(with_reducible refine(K1.out _).mono ?_);rintro e6 w6 ⟨rfl,hb6⟩;replace C:=C.bel hb6;replace B:=blkP B hb6;clear hb6;obtain⟨p0,p1,p2,p3,p4,p5⟩:=gvL B;have x2:=C.cell 2 _ rfl;obtain⟨q0,q0',q1,q1'⟩:=C.ret)
             | (go_at_call 16;(with_reducible refine(K2.out _).mono ?_);rintro e7 w7 ⟨rfl,hb7⟩;replace C:=C.bel hb7;replace B:=blkP B hb7;clear hb7;obtain⟨p0,p1,p2,p3,p4,p5⟩:=gvL B;have x2:=C.cell 2 _ rfl;obtain⟨q0,q0',q1,q1'⟩:=C.ret)
             | (go_at_call 32;(with_reducible refine(K4.out _).mono ?_);rintro e8 w8 ⟨rfl,hb8⟩;replace C:=C.bel hb8;replace B:=blkP B hb8;clear hb8;obtain⟨p0,p1,p2,p3,p4,p5⟩:=gvL B;have x2:=C.cell 2 _ rfl;obtain⟨q0,q0',q1,q1'⟩:=C.ret)
             | fail)
            refine bodyPost_ret (v:=.agg #[.int .i64 5,.int .i64 (3+(i:Int))]) (by simp[results,Tryz.results11,go_sem,q0,q0',q1,q1']) rfl ?_;rw[HX.out];exact C.post 5 (3+(i:Int))
           | false=>
            rw[if_neg (by rintro(h|h|h|⟨_,h⟩);exact h hck;exact h rfl;cases h;cases h)]at hP;have HX:=Lib.hid hP;clear hP hck
            go_wp2_with (first
             | (go_at_call 32;(with_reducible refine(K3.out _).mono ?_);rintro e5 w5 ⟨rfl,hb5⟩;replace C:=C.bel hb5;replace B:=blkP B hb5;clear hb5;obtain⟨p0,p1,p2,p3,p4,p5⟩:=gvL B;have x2:=C.cell 2 _ rfl;obtain⟨q0,q0',q1,q1'⟩:=C.ret)
             | (go_at_call 33;(with_reducible refine(K1.out _).mono ?_);rintro e6 w6 ⟨rfl,hb6⟩;replace C:=C.bel hb6;replace B:=blkP B hb6;clear hb6;obtain⟨p0,p1,p2,p3,p4,p5⟩:=gvL B;have x2:=C.cell 2 _ rfl;obtain⟨q0,q0',q1,q1'⟩:=C.ret)
             | (go_at_call 16;(with_reducible refine(K2.out _).mono ?_);rintro e7 w7 ⟨rfl,hb7⟩;replace C:=C.bel hb7;replace B:=blkP B hb7;clear hb7;obtain⟨p0,p1,p2,p3,p4,p5⟩:=gvL B;have x2:=C.cell 2 _ rfl;obtain⟨q0,q0',q1,q1'⟩:=C.ret)
             | (go_at_call 32;(with_reducible refine(K4.out _).mono ?_);rintro e8 w8 ⟨rfl,hb8⟩;replace C:=C.bel hb8;replace B:=blkP B hb8;clear hb8;obtain⟨p0,p1,p2,p3,p4,p5⟩:=gvL B;have x2:=C.cell 2 _ rfl;obtain⟨q0,q0',q1,q1'⟩:=C.ret)
             | fail)
            exact⟨⟨i+1,by go_num,by omega,Lib.hid C,HX⟩,by simp[intOf];omega⟩
        · rw[if_pos (.inr (.inl hse))]at hP
          have HX:Hid (R=(5,3+(i:Int))):=Lib.hid hP.symm;have b1:((se:Int)==(s.first.se:Int))=false:=by rw[beq_eq_false_iff_ne];omega
          have b1n:(se==s.first.se)=false:=by rw[beq_eq_false_iff_ne];exact hse
          clear hP hck
          go_wp2_with (first
           | (go_at_call 32;(with_reducible refine(K3.out _).mono ?_);rintro e5 w5 ⟨rfl,hb5⟩;replace C:=C.bel hb5;replace B:=blkP B hb5;clear hb5;obtain⟨p0,p1,p2,p3,p4,p5⟩:=gvL B;have x2:=C.cell 2 _ rfl;obtain⟨q0,q0',q1,q1'⟩:=C.ret)
           | (go_at_call 33;(with_reducible refine(K1.out _).mono ?_);rintro e6 w6 ⟨rfl,hb6⟩;replace C:=C.bel hb6;replace B:=blkP B hb6;clear hb6;obtain⟨p0,p1,p2,p3,p4,p5⟩:=gvL B;have x2:=C.cell 2 _ rfl;obtain⟨q0,q0',q1,q1'⟩:=C.ret)
           | (go_at_call 16;(with_reducible refine(K2.out _).mono ?_);rintro e7 w7 ⟨rfl,hb7⟩;replace C:=C.bel hb7;replace B:=blkP B hb7;clear hb7;obtain⟨p0,p1,p2,p3,p4,p5⟩:=gvL B;have x2:=C.cell 2 _ rfl;obtain⟨q0,q0',q1,q1'⟩:=C.ret)
           | (go_at_call 32;(with_reducible refine(K4.out _).mono ?_);rintro e8 w8 ⟨rfl,hb8⟩;replace C:=C.bel hb8;replace B:=blkP B hb8;clear hb8;obtain⟨p0,p1,p2,p3,p4,p5⟩:=gvL B;have x2:=C.cell 2 _ rfl;obtain⟨q0,q0',q1,q1'⟩:=C.ret)
           | fail)
          refine bodyPost_ret (v:=.agg #[.int .i64 5,.int .i64 (3+(i:Int))]) (by simp[results,Tryz.results11,go_sem,q0,q0',q1,q1']) rfl ?_;rw[HX.out];exact C.post 5 (3+(i:Int))
      · rw[if_pos (.inl hck)]at hP
        have HX:Hid (R=(5,3+(i:Int))):=Lib.hid hP.symm;have K2':=K2.out;rw[show(!decide (ck=0))=true by simpa using hck]at K2';clear K2;have K2:=Lib.hid K2';clear K2' hP hck
        go_wp2_with (first
         | (go_at_call 32;(with_reducible refine(K3.out _).mono ?_);rintro e5 w5 ⟨rfl,hb5⟩;replace C:=C.bel hb5;replace B:=blkP B hb5;clear hb5;obtain⟨p0,p1,p2,p3,p4,p5⟩:=gvL B;have x2:=C.cell 2 _ rfl;obtain⟨q0,q0',q1,q1'⟩:=C.ret)
         | (go_at_call 33;(with_reducible refine(K1.out _).mono ?_);rintro e6 w6 ⟨rfl,hb6⟩;replace C:=C.bel hb6;replace B:=blkP B hb6;clear hb6;obtain⟨p0,p1,p2,p3,p4,p5⟩:=gvL B;have x2:=C.cell 2 _ rfl;obtain⟨q0,q0',q1,q1'⟩:=C.ret)
         | (go_at_call 16;(with_reducible refine(K2.out _).mono ?_);rintro e7 w7 ⟨rfl,hb7⟩;replace C:=C.bel hb7;replace B:=blkP B hb7;clear hb7;obtain⟨p0,p1,p2,p3,p4,p5⟩:=gvL B;have x2:=C.cell 2 _ rfl;obtain⟨q0,q0',q1,q1'⟩:=C.ret)
         | (go_at_call 32;(with_reducible refine(K4.out _).mono ?_);rintro e8 w8 ⟨rfl,hb8⟩;replace C:=C.bel hb8;replace B:=blkP B hb8;clear hb8;obtain⟨p0,p1,p2,p3,p4,p5⟩:=gvL B;have x2:=C.cell 2 _ rfl;obtain⟨q0,q0',q1,q1'⟩:=C.ret)
         | fail)
        refine bodyPost_ret (v:=.agg #[.int .i64 5,.int .i64 (3+(i:Int))]) (by simp[results,Tryz.results11,go_sem,q0,q0',q1,q1']) rfl ?_;rw[HX.out];exact C.post 5 (3+(i:Int))
    · have b0:((i:Int)==0)=false:=by rw[beq_eq_false_iff_ne];omega
      have b0n:(i==0)=false:=by rw[beq_eq_false_iff_ne];exact hi0
      by_cases hck:ck=0
      · rw[hck]at K1 K2
        have K2':=K2.out;rw[show(!decide ((0:Int)=0))=false from rfl]at K2';clear K2;have K2:=Lib.hid K2';clear K2';by_cases hse:se=s.first.se
        · subst hse
          cases fg with
          | true=>
           rw[if_pos (.inr (.inr (.inl rfl)))]at hP;have HX:Hid (R=(5,3+(i:Int))):=Lib.hid hP.symm;clear hP hck
           go_wp2_with (first
            | (go_at_call 33;(with_reducible refine(K1.out _).mono ?_);rintro e6 w6 ⟨rfl,hb6⟩;replace C:=C.bel hb6;replace B:=blkP B hb6;clear hb6;obtain⟨p0,p1,p2,p3,p4,p5⟩:=gvL B;have x2:=C.cell 2 _ rfl;obtain⟨q0,q0',q1,q1'⟩:=C.ret)
            | (go_at_call 16;(with_reducible refine(K2.out _).mono ?_);rintro e7 w7 ⟨rfl,hb7⟩;replace C:=C.bel hb7;replace B:=blkP B hb7;clear hb7;obtain⟨p0,p1,p2,p3,p4,p5⟩:=gvL B;have x2:=C.cell 2 _ rfl;obtain⟨q0,q0',q1,q1'⟩:=C.ret)
            | (go_at_call 32;(with_reducible refine(K4.out _).mono ?_);rintro e8 w8 ⟨rfl,hb8⟩;replace C:=C.bel hb8;replace B:=blkP B hb8;clear hb8;obtain⟨p0,p1,p2,p3,p4,p5⟩:=gvL B;have x2:=C.cell 2 _ rfl;obtain⟨q0,q0',q1,q1'⟩:=C.ret)
            | fail)
           refine bodyPost_ret (v:=.agg #[.int .i64 5,.int .i64 (3+(i:Int))]) (by simp[results,Tryz.results11,go_sem,q0,q0',q1,q1']) rfl ?_;rw[HX.out];exact C.post 5 (3+(i:Int))
          | false=>
           rw[if_neg (by rintro(h|h|h|⟨h,_⟩);exact h hck;exact h rfl;cases h;exact hi0 h)]at hP;have HX:=Lib.hid hP;clear hP hck
           go_wp2_with (first
            | (go_at_call 33;(with_reducible refine(K1.out _).mono ?_);rintro e6 w6 ⟨rfl,hb6⟩;replace C:=C.bel hb6;replace B:=blkP B hb6;clear hb6;obtain⟨p0,p1,p2,p3,p4,p5⟩:=gvL B;have x2:=C.cell 2 _ rfl;obtain⟨q0,q0',q1,q1'⟩:=C.ret)
            | (go_at_call 16;(with_reducible refine(K2.out _).mono ?_);rintro e7 w7 ⟨rfl,hb7⟩;replace C:=C.bel hb7;replace B:=blkP B hb7;clear hb7;obtain⟨p0,p1,p2,p3,p4,p5⟩:=gvL B;have x2:=C.cell 2 _ rfl;obtain⟨q0,q0',q1,q1'⟩:=C.ret)
            | (go_at_call 32;(with_reducible refine(K4.out _).mono ?_);rintro e8 w8 ⟨rfl,hb8⟩;replace C:=C.bel hb8;replace B:=blkP B hb8;clear hb8;obtain⟨p0,p1,p2,p3,p4,p5⟩:=gvL B;have x2:=C.cell 2 _ rfl;obtain⟨q0,q0',q1,q1'⟩:=C.ret)
            | fail)
           exact⟨⟨i+1,by go_num,by omega,Lib.hid C,HX⟩,by simp[intOf];omega⟩
        · rw[if_pos (.inr (.inl hse))]at hP
          have HX:Hid (R=(5,3+(i:Int))):=Lib.hid hP.symm;have b1:((se:Int)==(s.first.se:Int))=false:=by rw[beq_eq_false_iff_ne];omega
          have b1n:(se==s.first.se)=false:=by rw[beq_eq_false_iff_ne];exact hse
          clear hP hck
          go_wp2_with (first
           | (go_at_call 33;(with_reducible refine(K1.out _).mono ?_);rintro e6 w6 ⟨rfl,hb6⟩;replace C:=C.bel hb6;replace B:=blkP B hb6;clear hb6;obtain⟨p0,p1,p2,p3,p4,p5⟩:=gvL B;have x2:=C.cell 2 _ rfl;obtain⟨q0,q0',q1,q1'⟩:=C.ret)
           | (go_at_call 16;(with_reducible refine(K2.out _).mono ?_);rintro e7 w7 ⟨rfl,hb7⟩;replace C:=C.bel hb7;replace B:=blkP B hb7;clear hb7;obtain⟨p0,p1,p2,p3,p4,p5⟩:=gvL B;have x2:=C.cell 2 _ rfl;obtain⟨q0,q0',q1,q1'⟩:=C.ret)
           | (go_at_call 32;(with_reducible refine(K4.out _).mono ?_);rintro e8 w8 ⟨rfl,hb8⟩;replace C:=C.bel hb8;replace B:=blkP B hb8;clear hb8;obtain⟨p0,p1,p2,p3,p4,p5⟩:=gvL B;have x2:=C.cell 2 _ rfl;obtain⟨q0,q0',q1,q1'⟩:=C.ret)
           | fail)
          refine bodyPost_ret (v:=.agg #[.int .i64 5,.int .i64 (3+(i:Int))]) (by simp[results,Tryz.results11,go_sem,q0,q0',q1,q1']) rfl ?_;rw[HX.out];exact C.post 5 (3+(i:Int))
      · rw[if_pos (.inl hck)]at hP
        have HX:Hid (R=(5,3+(i:Int))):=Lib.hid hP.symm;have K2':=K2.out;rw[show(!decide (ck=0))=true by simpa using hck]at K2';clear K2;have K2:=Lib.hid K2';clear K2' hP hck
        go_wp2_with (first
         | (go_at_call 33;(with_reducible refine(K1.out _).mono ?_);rintro e6 w6 ⟨rfl,hb6⟩;replace C:=C.bel hb6;replace B:=blkP B hb6;clear hb6;obtain⟨p0,p1,p2,p3,p4,p5⟩:=gvL B;have x2:=C.cell 2 _ rfl;obtain⟨q0,q0',q1,q1'⟩:=C.ret)
         | (go_at_call 16;(with_reducible refine(K2.out _).mono ?_);rintro e7 w7 ⟨rfl,hb7⟩;replace C:=C.bel hb7;replace B:=blkP B hb7;clear hb7;obtain⟨p0,p1,p2,p3,p4,p5⟩:=gvL B;have x2:=C.cell 2 _ rfl;obtain⟨q0,q0',q1,q1'⟩:=C.ret)
         | (go_at_call 32;(with_reducible refine(K4.out _).mono ?_);rintro e8 w8 ⟨rfl,hb8⟩;replace C:=C.bel hb8;replace B:=blkP B hb8;clear hb8;obtain⟨p0,p1,p2,p3,p4,p5⟩:=gvL B;have x2:=C.cell 2 _ rfl;obtain⟨q0,q0',q1,q1'⟩:=C.ret)
         | fail)
        refine bodyPost_ret (v:=.agg #[.int .i64 5,.int .i64 (3+(i:Int))]) (by simp[results,Tryz.results11,go_sem,q0,q0',q1,q1']) rfl ?_;rw[HX.out];exact C.post 5 (3+(i:Int))
  · have hP:=HP.out
    rw[List.drop_of_length_le (by rw[←HN.out];omega),soundF]at hP;have HX:Hid (R=(0,0)):=Lib.hid hP.symm;have m1:¬(i:Int)<(n:Int):=by omega
    have C:=HC.out;obtain⟨q0,q0',q1,q1'⟩:=C.ret;clear hP
    go_wp2_with fail
    refine bodyPost_ret (v:=.agg #[.int .i64 0,.int .i64 0]) (by simp[results,Tryz.results11,go_sem,q0,q0',q1,q1']) rfl ?_;rw[HX.out];exact C.post 0 0
theorem jt3(vn vs:Value)(s:OS)(w:World)(hT:TW w)(hrow:OsRow w vn vs s)(hok:smOS s):
 Calls Tryz.prog 11 #[osV vn vs s] w (CheckPost (ocheckM s) w):=by
 unfold ocheckM osV;cases ho:opensG s.first with
 | false=>rw[if_pos (.inl rfl)];exact vz2 vn vs s w hT hrow hok ho
 | true=>
  by_cases hn:s.first.nu=0
  · rw[if_neg (by rintro(h|h);cases h;exact h hn)]
    by_cases hc:(checkM s.b).1=0
    · rw[if_neg (fun h=>h hc)]
      cases hp:preM (bl s.setup) (vorb 5)with
      | false=>rw[if_pos rfl];exact vx9 vn vs s w hT hrow hok ho hn hc hp
      | true=>rw[if_neg (by decide)];exact vx8 vn vs s w hT hrow hok ho hn hc hp
    · rw[if_pos hc];exact vz0 vn vs s w hT hrow hok ho hn hc
  · rw[if_pos (.inr hn)];exact vz1 vn vs s w hT hrow hok ho hn
end Go.Proofs.YtagjkmkmphamoaaGreatDoor
