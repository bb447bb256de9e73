/- Pp -/
import Derived.Test.YtagjkmkmphamoaaGreatDoorPA7
set_option linter.all false
set_option maxHeartbeats 8000000
namespace Go.Proofs.YtagjkmkmphamoaaGreatDoor
open Go.RowKit
theorem jb0{w:World}{b:Nat}{cs:Array Value}{t:TypeId}(h:w.heap[b]?=some (.cells cs t (0,0)))(i:Nat)(v:Value)(hi:cs[i]?=some v):Live w b i v:=by
 unfold Live World.cell? World.frozen?;rw[h];exact⟨hi,by simp⟩
structure PS (w:World) (r H:Nat) (kd fb bu:Int) (g:Bool) (vt:ByteArray) (vs:Int) (v:Value) (wr:World):Prop where
 gg:w.grownBy wr (some r)
 sc:wr.heap[H]?=some (.cells #[.pointer (some ⟨r,0,none⟩),.int .i64 kd,.int .i64 fb,.bool g,.int .i64 bu] 128 (0,0))
 bb:wr.heap[H+1]?=some (.cells #[.string vt,.int .i64 vs,v] 33 (0,0))
 rb:wr.heap[w.heap.size+1]?=some (.cells #[.string ⟨#[]⟩,.int .i64 0,.slice none 0 0] 33 (0,0))
 hH:w.heap.size+2≤H
 hr:r<w.heap.size
section
variable {w wr:World} {r H:Nat} {kd fb bu:Int} {g:Bool} {vt:ByteArray} {vs:Int} {v:Value}
theorem PS.gr(h:PS w r H kd fb bu g vt vs v wr){w':World}(hg:wr.grownBy w' (some r)):PS w r H kd fb bu g vt vs v w':=by
 obtain⟨a,b,c,d,e,f⟩:=h;refine⟨jb3 a hg,?_,?_,?_,e,f⟩
 · exact(hg.block H (Array.getElem?_eq_some_iff.1 b).1 (by simp;omega)).trans b
 · exact(hg.block (H+1) (Array.getElem?_eq_some_iff.1 c).1 (by simp;omega)).trans c
 · exact(hg.block (w.heap.size+1) (Array.getElem?_eq_some_iff.1 d).1 (by simp;omega)).trans d
theorem PS.bel(h:PS w r H kd fb bu g vt vs v wr){w':World}(hb:Below wr.heap.size wr w'):PS w r H kd fb bu g vt vs v w':=h.gr (jc1 hb)
theorem PS.scan(h:PS w r H kd fb bu g vt vs v wr):wr.cell? ⟨H,0,none⟩=some (.pointer (some ⟨r,0,none⟩))∧wr.cell? ⟨H,1,none⟩=some (.int .i64 kd)∧wr.cell? ⟨H,2,none⟩=some (.int .i64 fb)∧wr.cell? ⟨H,3,none⟩=some (.bool g)∧wr.cell? ⟨H,4,none⟩=some (.int .i64 bu):=
 ⟨(jb0 h.sc 0 _ rfl).1,(jb0 h.sc 1 _ rfl).1,(jb0 h.sc 2 _ rfl).1,(jb0 h.sc 3 _ rfl).1,(jb0 h.sc 4 _ rfl).1⟩
theorem PS.blk(h:PS w r H kd fb bu g vt vs v wr):Live wr (H+1) 0 (.string vt)∧Live wr (H+1) 1 (.int .i64 vs)∧Live wr (H+1) 2 v:=
 ⟨jb0 h.bb 0 _ rfl,jb0 h.bb 1 _ rfl,jb0 h.bb 2 _ rfl⟩
theorem PS.res(h:PS w r H kd fb bu g vt vs v wr):Live wr (w.heap.size+1) 0 (.string ⟨#[]⟩)∧Live wr (w.heap.size+1) 1 (.int .i64 0)∧Live wr (w.heap.size+1) 2 (.slice none 0 0):=
 ⟨jb0 h.rb 0 _ rfl,jb0 h.rb 1 _ rfl,jb0 h.rb 2 _ rfl⟩
theorem PS.vend(h:PS w r H kd fb bu g vt vs v wr)(vt':ByteArray)(vs':Int):PS w r H kd fb bu g vt' vs' v ((wr.setCell ⟨H+1,0,none⟩ (.string vt')).setCell ⟨H+1,1,none⟩ (.int .i64 vs')):=by
 obtain⟨a,b,c,d,e,f⟩:=h;have h0:=Go.Lib.heap_setCell_same (i:=0) c (.string vt');have h1:=Go.Lib.heap_setCell_same (i:=1) h0 (.int .i64 vs');refine⟨jb9 (jb9 a (by simp;omega) _) (by simp;omega) _,?_,by rw[h1];simp,?_,e,f⟩
 · rw[Below.heap_setCell _ _ _ H (by simp),Below.heap_setCell _ _ _ H (by simp)];exact b
 · rw[Below.heap_setCell _ _ _ (w.heap.size+1) (by simp;omega),Below.heap_setCell _ _ _ (w.heap.size+1) (by simp;omega)];exact d
theorem PS.notes(h:PS w r H kd fb bu g vt vs v wr)(v':Value):PS w r H kd fb bu g vt vs v' (wr.setCell ⟨H+1,2,none⟩ v'):=by
 obtain⟨a,b,c,d,e,f⟩:=h;have h0:=Go.Lib.heap_setCell_same (i:=2) c v';refine⟨jb9 a (by simp;omega) _,?_,by rw[h0];simp,?_,e,f⟩
 · rw[Below.heap_setCell _ _ _ H (by simp)];exact b
 · rw[Below.heap_setCell _ _ _ (w.heap.size+1) (by simp;omega)];exact d
theorem PS.belB(h:PS w r H kd fb bu g vt vs v wr){w':World}(hb:Below (H+2) wr w'):PS w r H kd fb bu g vt vs v w':=by
 obtain⟨a,b,c,d,e,f⟩:=h;refine⟨⟨hb.os.trans a.os,hb.tape.trans a.tape,hb.output.trans a.output,Nat.le_trans a.size hb.size,fun j hj hr=>(hb.block j (by omega)).trans (a.block j hj hr)⟩,?_,?_,?_,e,f⟩
 · exact(hb.block H (by omega)).trans b
 · exact(hb.block (H+1) (by omega)).trans c
 · exact(hb.block (w.heap.size+1) (by omega)).trans d
theorem PS.sz(h:PS w r H kd fb bu g vt vs v wr):H+2≤wr.heap.size:=by
 have:=(Array.getElem?_eq_some_iff.1 h.bb).1;omega
theorem PS.start{w2:World}(hg:w.grownBy w2 (some r))(hres:w2.heap[w.heap.size+1]?=some (.cells #[.string ⟨#[]⟩,.int .i64 0,.slice none 0 0] 33 (0,0)))(hr:r<w.heap.size)(kd fb bu:Int)(g:Bool):
 PS w r w2.heap.size kd fb bu g ⟨#[]⟩ 0 (.slice none 0 0) ((w2.alloc (.cells #[.pointer (some ⟨r,0,none⟩),.int .i64 kd,.int .i64 fb,.bool g,.int .i64 bu] 128)).alloc (.cells #[.string ⟨#[]⟩,.int .i64 0,.slice none 0 0] 33)):=by
 have hl:=(Array.getElem?_eq_some_iff.1 hres).1;have hs1:(w2.alloc (.cells #[.pointer (some ⟨r,0,none⟩),.int .i64 kd,.int .i64 fb,.bool g,.int .i64 bu] 128)).heap.size=w2.heap.size+1:=World.size_alloc _ _;refine⟨kn6 (kn6 hg _) _,?_,?_,?_,by omega,hr⟩
 · exact(heap_alloc_old _ _ (by rw[hs1];omega)).trans (heap_alloc_new _ _)
 · rw[←hs1];exact heap_alloc_new _ _
 · exact((heap_alloc_old _ _ (by rw[hs1];omega)).trans (heap_alloc_old _ _ (by omega))).trans hres
end
def noneV:Value:=.tuple #[.agg #[.string ⟨#[]⟩,.int .i64 0,.slice none 0 0],.bool false]
def ParsePost(p:RS×Option Bk)(w:World)(r:Nat)(e:Ending)(w':World):Prop:=InX w' r p.1∧w.grownBy w' (some r)∧match p.2 with
 | none=>e=.returned noneV
 | some b=>∃v,e=.returned (.tuple #[.agg #[.string b.vt,.int .i64 b.vs,v],.bool true])∧w'.ownsRow w.heap.size 102 3 v b.ns.length (ntcells b.ns)
theorem kf1(fr:Bool)(x:RS)(h:x.e≠0):endR fr x=x:=by
 unfold endR wantR leftR;cases fr<;>simp[h]
theorem jk1{w w5:World}{r H:Nat}{kd fb bu:Int}{g:Bool}{vt:ByteArray}{vs:Int}{v:Value}{y:RS}(hP:PS w r H kd fb bu g vt vs v w5)(hi:InX w5 r y):
 ParsePost (y,none) w r (.returned noneV) (((w5.setCell ⟨w.heap.size+1,0,none⟩ (.string ⟨#[]⟩)).setCell ⟨w.heap.size+1,1,none⟩ (.int .i64 0)).setCell ⟨w.heap.size+1,2,none⟩ (.slice none 0 0)):=by
 have h1:=hP.hr;refine⟨hi.gr (jb3 (jb3 (jc0 _ _ _ _) (jc0 _ _ _ _)) (jc0 _ _ _ _)) (by simp;omega),jb9 (jb9 (jb9 hP.gg (by simp) _) (by simp) _) (by simp) _,rfl⟩
set_option maxRecDepth 100000 in
theorem vm2(w:World)(r:Nat)(x:RS)(fr:Bool)(kd fb bu:Int)(g:Bool)(h:InX w r x)(hx:x.e≠0):
 Calls Tryz.prog 42 #[.pointer (some ⟨r,0,none⟩),.bool fr,.agg #[.int .i64 kd,.int .i64 fb,.bool g,.int .i64 bu]] w (ParsePost (parseR (RM fb g) fr x) w r):=by
 have k1:=fun w h=>jc5 w r x h
 have k2:=fun w=>jb8 x.e x.a w
 have hp:parseR (RM fb g) fr x=(x,none):=by
  unfold parseR;rw[if_pos hx]
 rw[hp];clear hp;obtain⟨W,hW⟩:∃W,W=(w.alloc (.cells #[.int .i64 kd,.int .i64 fb,.bool g,.int .i64 bu] 67)).alloc (.cells #[.string ⟨#[]⟩,.int .i64 0,.slice none 0 0] 33):=⟨_,rfl⟩;have hs1:(w.alloc (.cells #[.int .i64 kd,.int .i64 fb,.bool g,.int .i64 bu] 67)).heap.size=w.heap.size+1:=World.size_alloc _ _;have hbW:Below w.heap.size w W:=by rw[hW];exact bal (bal (Below.refl _ _) _) _
 have hres:W.heap[w.heap.size+1]?=some (.cells #[.string ⟨#[]⟩,.int .i64 0,.slice none 0 0] 33 (0,0)):=by
  rw[hW,←hs1];exact heap_alloc_new _ _
 have hrl:=h.lt;have hIW:=h.bel hbW;have m0:=jb0 hres 0 _ rfl;have m1:=jb0 hres 1 _ rfl;have m2:=jb0 hres 2 _ rfl;have d1:(!decide (x.e=0))=true:=by simpa using hx
 rw[d1]at k2;have K1:=Lib.hid k1;have K2:=Lib.hid k2;have HIW:=Lib.hid hIW;have HBW:=Lib.hid hbW;have M0:=Lib.hid m0;have M1:=Lib.hid m1;have M2:=Lib.hid m2;clear k1 k2 hIW hbW m0 m1 m2;clear hx d1 h hres hs1
 go_enter Tryz.func42,Tryz.ntmps42
 go_wp2_with fail
 rw[←hW];clear hW
 go_wp2_with (first
  | (go_at_call 43;refine(K1.out _ HIW.out).mono ?_;rintro e w1 ⟨rfl,hb1⟩)
  | (go_at_call 16;refine(K2.out _).mono ?_;rintro e w2 ⟨rfl,hb2⟩;have hb12:=bt hb1 hb2;obtain⟨q0,q0'⟩:=M0.out.keep hb12;obtain⟨q1,q1'⟩:=M1.out.keep hb12;obtain⟨q2,q2'⟩:=M2.out.keep hb12))
 refine bodyPost_ret (v:=noneV) (by simp[results,Tryz.results42,go_sem,q0,q1,q2,q0',q1',q2',noneV]) rfl ?_;have hbz:=HBW.out.trans (hb12.mono HBW.out.size);exact⟨((HIW.out.bel hb12).gr (jb3 (jb3 (jc0 _ _ _ _) (jc0 _ _ _ _)) (jc0 _ _ _ _)) (by simp;omega)),jb9 (jb9 (jb9 (jc1 hbz) (by simp) _) (by simp) _) (by simp) _,rfl⟩
set_option maxRecDepth 100000 in
theorem qn2(w:World)(r:Nat)(x:RS)(fr:Bool)(kd fb bu:Int)(g:Bool)(h:InX w r x)(hk:okR x)(hx:x.e=0)(hy:(sizedR x).1.e≠0):
 Calls Tryz.prog 42 #[.pointer (some ⟨r,0,none⟩),.bool fr,.agg #[.int .i64 kd,.int .i64 fb,.bool g,.int .i64 bu]] w (ParsePost (parseR (RM fb g) fr x) w r):=by
 have k1:=fun w h=>jc5 w r x h
 have k2:=fun w=>jb8 x.e x.a w
 have k3:=fun w h=>jv0 w r x kd fb bu g h hk
 have k4:=fun w h=>jc5 w r (sizedR x).1 h
 have k5:=fun w=>jb8 (sizedR x).1.e (sizedR x).1.a w
 have hp:parseR (RM fb g) fr x=((sizedR x).1,none):=by
  unfold parseR;rw[if_neg (by simpa using hx),if_pos hy]
 rw[hp];clear hp;obtain⟨W,hW⟩:∃W,W=(w.alloc (.cells #[.int .i64 kd,.int .i64 fb,.bool g,.int .i64 bu] 67)).alloc (.cells #[.string ⟨#[]⟩,.int .i64 0,.slice none 0 0] 33):=⟨_,rfl⟩;have hs1:(w.alloc (.cells #[.int .i64 kd,.int .i64 fb,.bool g,.int .i64 bu] 67)).heap.size=w.heap.size+1:=World.size_alloc _ _;have hbW:Below w.heap.size w W:=by rw[hW];exact bal (bal (Below.refl _ _) _) _
 have lo:∀(i:Nat) (v:Value),(#[.int .i64 kd,.int .i64 fb,.bool g,.int .i64 bu]:Array Value)[i]?=some v→Live W w.heap.size i v:=by
  intro i v hv;rw[hW];exact((Live.fresh w _ 67 i v hv).alloc _)
 have hres:W.heap[w.heap.size+1]?=some (.cells #[.string ⟨#[]⟩,.int .i64 0,.slice none 0 0] 33 (0,0)):=by
  rw[hW,←hs1];exact heap_alloc_new _ _
 have hWs:W.heap.size=w.heap.size+2:=by rw[hW,World.size_alloc,World.size_alloc]
 have hrl:=h.lt;have hIW:=h.bel hbW;have d1:(!decide (x.e=0))=false:=by simpa using hx
 have d2:(!decide ((sizedR x).1.e=0))=true:=by simpa using hy
 rw[d1]at k2;rw[d2]at k5;generalize sizedR x=Z at *;obtain⟨y,t,at_⟩:=Z;simp only at k3 k4 k5 ⊢;have l0:=lo 0 _ rfl;have l1:=lo 1 _ rfl;have l2:=lo 2 _ rfl;have l3:=lo 3 _ rfl;have K1:=Lib.hid k1;have K2:=Lib.hid k2;have K3:=Lib.hid k3;have K4:=Lib.hid k4;have K5:=Lib.hid k5;have HIW:=Lib.hid hIW;have HBW:=Lib.hid hbW;have HRES:=Lib.hid hres;have HWS:=Lib.hid hWs;have L0:=Lib.hid l0;have L1:=Lib.hid l1;have L2:=Lib.hid l2;have L3:=Lib.hid l3;clear k1 k2 k3 k4 k5 hIW hbW hres hWs l0 l1 l2 l3;clear lo hx hy d1 d2 hk h hs1
 go_enter Tryz.func42,Tryz.ntmps42
 go_wp2_with fail
 rw[←hW];clear hW
 go_wp2_with (first
  | (go_at_call 43;refine(K1.out _ HIW.out).mono ?_;rintro e w1 ⟨rfl,hb1⟩)
  | (go_at_call 16;refine(K2.out _).mono ?_;rintro e w2 ⟨rfl,hb2⟩;have hb12:=bt hb1 hb2;obtain⟨o0,_⟩:=L0.out.keep hb12;obtain⟨o1,_⟩:=L1.out.keep hb12;obtain⟨o2,_⟩:=L2.out.keep hb12;obtain⟨o3,_⟩:=L3.out.keep hb12))
 have P2:=PS.start (jc1 (HBW.out.trans (hb12.mono HBW.out.size))) ((hb12.block _ (by rw[HWS.out];omega)).trans HRES.out) hrl kd fb bu g;have hi2:InX w2 r x:=HIW.out.bel hb12;have hi2':=hi2.bel (bal (bal (Below.refl w2.heap.size w2) (.cells #[.pointer (some ⟨r,0,none⟩),.int .i64 kd,.int .i64 fb,.bool g,.int .i64 bu] 128)) (.cells #[.string ⟨#[]⟩,.int .i64 0,.slice none 0 0] 33))
 go_wp2_with (first
  | (go_at_call 79;refine(K3.out _ hi2').mono ?_;rintro e w3 ⟨rfl,hi3,hg3⟩;have P3:=P2.gr hg3;obtain⟨s0,s1,s2,s3,s4⟩:=P3.scan)
  | (go_at_call 43;refine(K4.out _ hi3).mono ?_;rintro e w4 ⟨rfl,hb4⟩;have P4:=P3.bel hb4)
  | (go_at_call 16;refine(K5.out _).mono ?_;rintro e w5 ⟨rfl,hb5⟩;have P5:=P4.bel hb5;obtain⟨⟨q0,q0'⟩,⟨q1,q1'⟩,⟨q2,q2'⟩⟩:=P5.res))
 refine bodyPost_ret (v:=noneV) (by simp[results,Tryz.results42,go_sem,q0,q1,q2,q0',q1',q2',noneV]) rfl ?_;exact jk1 P5 ((hi3.bel hb4).bel hb5)
theorem infoNote:(Tryz.prog.info? 102).map (fun i=>(i.zero,i.size,i.bytes))=some (some (.agg #[.string ⟨#[]⟩,.string ⟨#[]⟩,.int .i64 0]),3,40):=by kernel_rfl
theorem jv9(R:List UInt8→Int)(k:Nat)(x:RS)(l:List Nt)(h:x.e≠0):notesR R k x l=(x,l):=by
 cases k with
 | zero=>rfl
 | succ k=>rw[notesR,if_pos h]
set_option maxRecDepth 100000 in
theorem vm1(w:World)(r:Nat)(x:RS)(fr:Bool)(kd fb bu:Int)(g:Bool)(hT:TW w)(hr:4≤r)(h:InX w r x)(hk:okR x)(hs:x.s.size≤1048576)(hx:x.e=0)(hy:(sizedR x).1.e=0)
 (hbig:4096<(numR (leafR (RM fb g) (sizedR x).1 (sizedR x).2.1 (sizedR x).2.2).1).2):
 Calls Tryz.prog 42 #[.pointer (some ⟨r,0,none⟩),.bool fr,.agg #[.int .i64 kd,.int .i64 fb,.bool g,.int .i64 bu]] w (ParsePost (parseR (RM fb g) fr x) w r):=by
 have k1:=fun w h=>jc5 w r x h
 have k2:=fun w=>jb8 x.e x.a w
 have k3:=fun w h=>jv0 w r x kd fb bu g h hk
 have k4:=fun w h=>jc5 w r (sizedR x).1 h
 have k5:=fun w=>jb8 (sizedR x).1.e (sizedR x).1.a w
 have hky:=jn9 hk;have hsy:=jx0 x;have hts:=jz5 x;have hat:0≤(sizedR x).2.2∧(sizedR x).2.2≤2199023255552:=by
  have h1:=kb6 hk;unfold okR at h1;show 0≤((numR x).1.b:Int)+(numR x).1.n∧((numR x).1.b:Int)+(numR x).1.n≤2199023255552;omega
 obtain⟨W,hW⟩:∃W,W=(w.alloc (.cells #[.int .i64 kd,.int .i64 fb,.bool g,.int .i64 bu] 67)).alloc (.cells #[.string ⟨#[]⟩,.int .i64 0,.slice none 0 0] 33):=⟨_,rfl⟩;have hs1:(w.alloc (.cells #[.int .i64 kd,.int .i64 fb,.bool g,.int .i64 bu] 67)).heap.size=w.heap.size+1:=World.size_alloc _ _;have hbW:Below w.heap.size w W:=by rw[hW];exact bal (bal (Below.refl _ _) _) _
 have lo:∀(i:Nat) (v:Value),(#[.int .i64 kd,.int .i64 fb,.bool g,.int .i64 bu]:Array Value)[i]?=some v→Live W w.heap.size i v:=by
  intro i v hv;rw[hW];exact((Live.fresh w _ 67 i v hv).alloc _)
 have hres:W.heap[w.heap.size+1]?=some (.cells #[.string ⟨#[]⟩,.int .i64 0,.slice none 0 0] 33 (0,0)):=by
  rw[hW,←hs1];exact heap_alloc_new _ _
 have hWs:W.heap.size=w.heap.size+2:=by rw[hW,World.size_alloc,World.size_alloc]
 have hrl:=h.lt;have hIW:=h.bel hbW;have d1:(!decide (x.e=0))=false:=by simpa using hx
 have d2:(!decide ((sizedR x).1.e=0))=false:=by simpa using hy
 rw[d1]at k2;rw[d2]at k5;generalize hZ:sizedR x=Z at *;obtain⟨y,t,at_⟩:=Z;simp only at k3 k4 k5 hky hsy hts hat hbig;have k6:∀w,TW w→InX w r y→Calls Tryz.prog 80 #[.agg #[.pointer (some ⟨r,0,none⟩),.int .i64 kd,.int .i64 fb,.bool g,.int .i64 bu],.string t,.int .i64 at_] w
  fun v w'=>v=.returned (.agg #[.string (leafR (RM fb g) y t at_).2.1,.int .i64 (leafR (RM fb g) y t at_).2.2])∧InX w' r (leafR (RM fb g) y t at_).1∧w.grownBy w' (some r):=
  fun w hT h=>kp4 w r y kd fb bu g t at_ hT hr h (by omega) (by omega) (by omega)
 have hkz:=qb0 (R:=RM fb g) hky t at_;have hsz:=qs6 (R:=RM fb g) y t at_;rw[hsy]at hsz;have hp:parseR (RM fb g) fr x=(endR fr (notesR (RM fb g) (countR (leafR (RM fb g) y t at_).1).2 (countR (leafR (RM fb g) y t at_).1).1 []).1,
  if(endR fr (notesR (RM fb g) (countR (leafR (RM fb g) y t at_).1).2 (countR (leafR (RM fb g) y t at_).1).1 []).1).e≠0 then none else some ⟨(leafR (RM fb g) y t at_).2.1,(leafR (RM fb g) y t at_).2.2,(notesR (RM fb g) (countR (leafR (RM fb g) y t at_).1).2 (countR (leafR (RM fb g) y t at_).1).1 []).2⟩):=by
  unfold parseR;rw[hZ,if_neg (by simpa using hx)];simp only;rw[if_neg (by simpa using hy)]
 rw[hp];clear hp hZ;generalize leafR (RM fb g) y t at_=L at *;obtain⟨z,vt,vs⟩:=L;simp only at k6 hkz hsz hbig ⊢;have k7:=fun w h=>kn0 w r z h hkz
 have k8:=fun w h=>km9 w r z h hkz
 have hn:=qs1 z;have hc:countR z=(failR (numR z).1 4 ((z.b:Int)+z.n),(numR z).2):=by unfold countR;rw[if_pos hbig]
 have k9:=fun w h=>jj1 w r (numR z).1 4 ((z.b:Int)+z.n) h
 have hbad:=jp3 (numR z).1 4 ((z.b:Int)+z.n) (by decide);rw[hc,jv9 _ _ _ _ hbad,kf1 _ _ hbad,if_pos hbad];generalize failR (numR z).1 4 ((z.b:Int)+z.n)=u at *;generalize numR z=Y at *;obtain⟨u0,n⟩:=Y;simp only at k8 k9 hn hbig;have ka:=fun w h=>jc5 w r u h
 have kb:=fun w=>jb8 u.e u.a w
 have d3:(!decide (u.e=0))=true:=by simpa using hbad
 rw[d3]at kb;have hgt:(n:Int) > 4096:=by omega
 have hpos:(0:Int)<(n:Int):=by omega
 have K9:=Lib.hid k9;have KA:=Lib.hid ka;have KB:=Lib.hid kb;clear k9 ka kb;have l0:=lo 0 _ rfl;have l1:=lo 1 _ rfl;have l2:=lo 2 _ rfl;have l3:=lo 3 _ rfl;have K1:=Lib.hid k1;have K2:=Lib.hid k2;have K3:=Lib.hid k3;have K4:=Lib.hid k4;have K5:=Lib.hid k5;have K6:=Lib.hid k6;have K7:=Lib.hid k7;have K8:=Lib.hid k8;have HIW:=Lib.hid hIW;have HBW:=Lib.hid hbW;have HRES:=Lib.hid hres;have HWS:=Lib.hid hWs;have L0:=Lib.hid l0;have L1:=Lib.hid l1;have L2:=Lib.hid l2;have L3:=Lib.hid l3;have HT:=Lib.hid hT;clear k1 k2 k3 k4 k5 k6 k7 k8 hIW hbW hres hWs l0 l1 l2 l3 hT;clear lo hx hy d1 d2 d3 hk h hs1 hbad hc hky hkz hsy hsz hts hs
 go_enter Tryz.func42,Tryz.ntmps42
 go_wp2_with fail
 rw[←hW];clear hW
 go_wp2_with (first
  | (go_at_call 43;refine(K1.out _ HIW.out).mono ?_;rintro e w1 ⟨rfl,hb1⟩)
  | (go_at_call 16;refine(K2.out _).mono ?_;rintro e w2 ⟨rfl,hb2⟩;have hb12:=bt hb1 hb2;obtain⟨o0,_⟩:=L0.out.keep hb12;obtain⟨o1,_⟩:=L1.out.keep hb12;obtain⟨o2,_⟩:=L2.out.keep hb12;obtain⟨o3,_⟩:=L3.out.keep hb12))
 have P2:=PS.start (jc1 (HBW.out.trans (hb12.mono HBW.out.size))) ((hb12.block _ (by rw[HWS.out];omega)).trans HRES.out) hrl kd fb bu g;have hi2:InX w2 r x:=HIW.out.bel hb12;have hi2':=hi2.bel (bal (bal (Below.refl w2.heap.size w2) (.cells #[.pointer (some ⟨r,0,none⟩),.int .i64 kd,.int .i64 fb,.bool g,.int .i64 bu] 128)) (.cells #[.string ⟨#[]⟩,.int .i64 0,.slice none 0 0] 33));have HP2:=Lib.hid P2;have HI2:=Lib.hid hi2';clear P2 hi2';clear o0 o1 o2 o3 hi2 hb12 hb1 hb2
 go_wp2_with (first
  | (go_at_call 79;refine(K3.out _ HI2.out).mono ?_;rintro e w3 ⟨rfl,hi3,hg3⟩;have P3:=HP2.out.gr hg3;obtain⟨s0,s1,s2,s3,s4⟩:=P3.scan)
  | (go_at_call 43;refine(K4.out _ hi3).mono ?_;rintro e w4 ⟨rfl,hb4⟩;have P4:=P3.bel hb4)
  | (go_at_call 16;refine(K5.out _).mono ?_;rintro e w5 ⟨rfl,hb5⟩;have P5:=P4.bel hb5;have hi5:=(hi3.bel hb4).bel hb5;obtain⟨s0,s1,s2,s3,s4⟩:=P5.scan)
  | (go_at_call 80;refine(K6.out _ (HT.out.grown P5.gg (by intro k hk;cases hk;exact hr)) hi5).mono ?_;rintro e w6 ⟨rfl,hi6,hg6⟩;have P6:=P5.gr hg6;obtain⟨⟨b0,b0'⟩,⟨b1,b1'⟩,_⟩:=P6.blk;have P6:=P6.vend vt vs;have hi6:InX _ r z:=hi6.gr (jb3 (jc0 _ (w2.heap.size+1) 0 (.string vt)) (jc0 _ (w2.heap.size+1) 1 (.int .i64 vs))) (by have:=HP2.out.hH;simp;omega);obtain⟨s0,s1,s2,s3,s4⟩:=P6.scan)
  | (go_at_call 71;refine(K7.out _ hi6).mono ?_;rintro e w7 ⟨rfl,hb7⟩;have P7:=P6.bel hb7;have hi7:=hi6.bel hb7;obtain⟨s0,s1,s2,s3,s4⟩:=P7.scan)
  | (go_at_call 81;refine(K8.out _ hi7).mono ?_;rintro e w8 ⟨rfl,hi8,hg8⟩;have P8:=P7.gr hg8;obtain⟨s0,s1,s2,s3,s4⟩:=P8.scan)
  | (go_at_call 73;refine(K9.out _ hi8).mono ?_;rintro e w9 ⟨rfl,hi9,hg9⟩;have P9:=P8.gr hg9))
 go_loopw [53] (fun i wr=>i=.int .u64 0∧PS w r w2.heap.size kd fb bu g vt vs (.slice none 0 0) wr∧InX wr r u) (fun _ _=>0)
 case atStart=>exact⟨rfl,P9,hi9⟩
 case round=>
  obtain⟨rfl,Pr,hir⟩:=hrel;obtain⟨s0,s1,s2,s3,s4⟩:=Pr.scan
  go_wp2_with (first
   | (go_at_call 43;refine(KA.out _ hir).mono ?_;rintro e wa ⟨rfl,hba⟩;have Pa:=Pr.bel hba)
   | (go_at_call 16;refine(KB.out _).mono ?_;rintro e wb ⟨rfl,hbb⟩;have Pb:=Pa.bel hbb;obtain⟨⟨q0,q0'⟩,⟨q1,q1'⟩,⟨q2,q2'⟩⟩:=Pb.res))
  refine bodyPost_ret (v:=noneV) (by simp[results,Tryz.results42,go_sem,q0,q1,q2,q0',q1',q2',noneV]) rfl ?_;exact jk1 Pb ((hir.bel hba).bel hbb)
theorem qh9(l:List Nt)(n:Nt):ntcells (l ++ [n])=ntcells l++(#[.string n.name,.string n.text,.int .i64 n.set]:Array Value).toList:=by rw[jv8];rfl
theorem qm6{fr:Bool}{x v:RS}(hv:(if fr=true then(wantR x frameB).1 else x)=v)(h:0<leftR v):endR fr x=failR v 1 ((v.b:Int)+v.n):=by
 unfold endR;simp only;rw[hv,if_pos h]
theorem qm7{fr:Bool}{x v:RS}(hv:(if fr=true then(wantR x frameB).1 else x)=v)(h:¬0<leftR v):endR fr x=v:=by
 unfold endR;simp only;rw[hv,if_neg h]
set_option maxRecDepth 100000 in
theorem qv0(w:World)(r:Nat)(x:RS)(fr:Bool)(kd fb bu:Int)(g:Bool)(hT:TW w)(hr:4≤r)(h:InX w r x)(hk:okR x)(hs:x.s.size≤1048576)(hx:x.e=0)(hy:(sizedR x).1.e=0)
 (hsm:¬4096<(numR (leafR (RM fb g) (sizedR x).1 (sizedR x).2.1 (sizedR x).2.2).1).2):
 Calls Tryz.prog 42 #[.pointer (some ⟨r,0,none⟩),.bool fr,.agg #[.int .i64 kd,.int .i64 fb,.bool g,.int .i64 bu]] w (ParsePost (parseR (RM fb g) fr x) w r):=by
 have k1:=fun w h=>jc5 w r x h
 have k2:=fun w=>jb8 x.e x.a w
 have k3:=fun w h=>jv0 w r x kd fb bu g h hk
 have k4:=fun w h=>jc5 w r (sizedR x).1 h
 have k5:=fun w=>jb8 (sizedR x).1.e (sizedR x).1.a w
 have hky:=jn9 hk;have hsy:=jx0 x;have hts:=jz5 x;have hat:0≤(sizedR x).2.2∧(sizedR x).2.2≤2199023255552:=by
  have h1:=kb6 hk;unfold okR at h1;show 0≤((numR x).1.b:Int)+(numR x).1.n∧((numR x).1.b:Int)+(numR x).1.n≤2199023255552;omega
 obtain⟨W,hW⟩:∃W,W=(w.alloc (.cells #[.int .i64 kd,.int .i64 fb,.bool g,.int .i64 bu] 67)).alloc (.cells #[.string ⟨#[]⟩,.int .i64 0,.slice none 0 0] 33):=⟨_,rfl⟩;have hs1:(w.alloc (.cells #[.int .i64 kd,.int .i64 fb,.bool g,.int .i64 bu] 67)).heap.size=w.heap.size+1:=World.size_alloc _ _;have hbW:Below w.heap.size w W:=by rw[hW];exact bal (bal (Below.refl _ _) _) _
 have lo:∀(i:Nat) (v:Value),(#[.int .i64 kd,.int .i64 fb,.bool g,.int .i64 bu]:Array Value)[i]?=some v→Live W w.heap.size i v:=by
  intro i v hv;rw[hW];exact((Live.fresh w _ 67 i v hv).alloc _)
 have hres:W.heap[w.heap.size+1]?=some (.cells #[.string ⟨#[]⟩,.int .i64 0,.slice none 0 0] 33 (0,0)):=by
  rw[hW,←hs1];exact heap_alloc_new _ _
 have hWs:W.heap.size=w.heap.size+2:=by rw[hW,World.size_alloc,World.size_alloc]
 have hrl:=h.lt;have hIW:=h.bel hbW;have d1:(!decide (x.e=0))=false:=by simpa using hx
 have d2:(!decide ((sizedR x).1.e=0))=false:=by simpa using hy
 rw[d1]at k2;rw[d2]at k5;generalize hZ:sizedR x=Z at *;obtain⟨y,t,at_⟩:=Z;simp only at k3 k4 k5 hky hsy hts hat hsm;have k6:∀w,TW w→InX w r y→Calls Tryz.prog 80 #[.agg #[.pointer (some ⟨r,0,none⟩),.int .i64 kd,.int .i64 fb,.bool g,.int .i64 bu],.string t,.int .i64 at_] w
  fun v w'=>v=.returned (.agg #[.string (leafR (RM fb g) y t at_).2.1,.int .i64 (leafR (RM fb g) y t at_).2.2])∧InX w' r (leafR (RM fb g) y t at_).1∧w.grownBy w' (some r):=
  fun w hT h=>kp4 w r y kd fb bu g t at_ hT hr h (by omega) (by omega) (by omega)
 have hkz:=qb0 (R:=RM fb g) hky t at_;have hsz:=qs6 (R:=RM fb g) y t at_;rw[hsy]at hsz;have hp:parseR (RM fb g) fr x=(endR fr (notesR (RM fb g) (countR (leafR (RM fb g) y t at_).1).2 (countR (leafR (RM fb g) y t at_).1).1 []).1,
  if(endR fr (notesR (RM fb g) (countR (leafR (RM fb g) y t at_).1).2 (countR (leafR (RM fb g) y t at_).1).1 []).1).e≠0 then none else some ⟨(leafR (RM fb g) y t at_).2.1,(leafR (RM fb g) y t at_).2.2,(notesR (RM fb g) (countR (leafR (RM fb g) y t at_).1).2 (countR (leafR (RM fb g) y t at_).1).1 []).2⟩):=by
  unfold parseR;rw[hZ,if_neg (by simpa using hx)];simp only;rw[if_neg (by simpa using hy)]
 rw[hp];clear hp hZ;generalize leafR (RM fb g) y t at_=L at *;obtain⟨z,vt,vs⟩:=L;simp only at k6 hkz hsz hsm ⊢;have k7:=fun w h=>kn0 w r z h hkz
 have k8:=fun w h=>km9 w r z h hkz
 have hn:=qs1 z;have hc:countR z=((numR z).1,(numR z).2):=by unfold countR;rw[if_neg hsm]
 rw[hc];have hku:=kb6 hkz;have hsu:(numR z).1.s=x.s:=by unfold numR;rw[kx9];exact hsz
 clear hc;generalize numR z=Y at *;obtain⟨u,n⟩:=Y;simp only at k8 hn hsm hku hsu ⊢;generalize hQ:notesR (RM fb g) n u []=Q0 at *;obtain⟨zq,NL⟩:=Q0;simp only;obtain⟨RES,hRES⟩:∃p:RS×Option Bk,p=(endR fr zq,if(endR fr zq).e≠0 then none else some ⟨vt,vs,NL⟩):=⟨_,rfl⟩;rw[←hRES];have hgt:¬(n:Int) > 4096:=by omega
 have KB2:=Lib.hid jb8;have KF2:=Lib.hid jc5;have KN2:Hid (∀(w:World) (x:RS),TW w→InX w r x→okR x→x.s.size≤1048576 →
  Calls Tryz.prog 82 #[.agg #[.pointer (some ⟨r,0,none⟩),.int .i64 kd,.int .i64 fb,.bool g,.int .i64 bu]] w
   fun v w'=>v=.returned (.agg #[.string (noteR (RM fb g) x).2.name,.string (noteR (RM fb g) x).2.text,.int .i64 (noteR (RM fb g) x).2.set])∧InX w' r (noteR (RM fb g) x).1∧w.grownBy w' (some r)):=
  fun w x hT h hk hs=>xg7 w r x kd fb bu g hT hr h hk hs
 have hsm2:n≤4096:=by omega
 have HQ:=Lib.hid hQ;have HRS:=Lib.hid hRES;have HSX:=Lib.hid hs;have HSU:=Lib.hid hsu;clear hQ hRES hs hsu;have l0:=lo 0 _ rfl;have l1:=lo 1 _ rfl;have l2:=lo 2 _ rfl;have l3:=lo 3 _ rfl;have K1:=Lib.hid k1;have K2:=Lib.hid k2;have K3:=Lib.hid k3;have K4:=Lib.hid k4;have K5:=Lib.hid k5;have K6:=Lib.hid k6;have K7:=Lib.hid k7;have K8:=Lib.hid k8;have HIW:=Lib.hid hIW;have HBW:=Lib.hid hbW;have HRES:=Lib.hid hres;have HWS:=Lib.hid hWs;have L0:=Lib.hid l0;have L1:=Lib.hid l1;have L2:=Lib.hid l2;have L3:=Lib.hid l3;have HT:=Lib.hid hT;clear k1 k2 k3 k4 k5 k6 k7 k8 hIW hbW hres hWs l0 l1 l2 l3 hT;clear lo hx hy d1 d2 hk h hs1 hky hkz hsy hsz hts hsm
 go_enter Tryz.func42,Tryz.ntmps42
 go_wp2_with fail
 rw[←hW];clear hW
 go_wp2_with (first
  | (go_at_call 43;refine(K1.out _ HIW.out).mono ?_;rintro e w1 ⟨rfl,hb1⟩)
  | (go_at_call 16;refine(K2.out _).mono ?_;rintro e w2 ⟨rfl,hb2⟩;have hb12:=bt hb1 hb2;obtain⟨o0,_⟩:=L0.out.keep hb12;obtain⟨o1,_⟩:=L1.out.keep hb12;obtain⟨o2,_⟩:=L2.out.keep hb12;obtain⟨o3,_⟩:=L3.out.keep hb12))
 have P2:=PS.start (jc1 (HBW.out.trans (hb12.mono HBW.out.size))) ((hb12.block _ (by rw[HWS.out];omega)).trans HRES.out) hrl kd fb bu g;have hi2:InX w2 r x:=HIW.out.bel hb12;have hi2':=hi2.bel (bal (bal (Below.refl w2.heap.size w2) (.cells #[.pointer (some ⟨r,0,none⟩),.int .i64 kd,.int .i64 fb,.bool g,.int .i64 bu] 128)) (.cells #[.string ⟨#[]⟩,.int .i64 0,.slice none 0 0] 33));have HP2:=Lib.hid P2;have HI2:=Lib.hid hi2';clear P2 hi2';clear o0 o1 o2 o3 hi2 hb12 hb1 hb2
 go_wp2_with (first
  | (go_at_call 79;refine(K3.out _ HI2.out).mono ?_;rintro e w3 ⟨rfl,hi3,hg3⟩;have P3:=HP2.out.gr hg3;obtain⟨s0,s1,s2,s3,s4⟩:=P3.scan)
  | (go_at_call 43;refine(K4.out _ hi3).mono ?_;rintro e w4 ⟨rfl,hb4⟩;have P4:=P3.bel hb4)
  | (go_at_call 16;refine(K5.out _).mono ?_;rintro e w5 ⟨rfl,hb5⟩;have P5:=P4.bel hb5;have hi5:=(hi3.bel hb4).bel hb5;obtain⟨s0,s1,s2,s3,s4⟩:=P5.scan)
  | (go_at_call 80;refine(K6.out _ (HT.out.grown P5.gg (by intro k hk;cases hk;exact hr)) hi5).mono ?_;rintro e w6 ⟨rfl,hi6,hg6⟩;have P6:=P5.gr hg6;obtain⟨⟨b0,b0'⟩,⟨b1,b1'⟩,_⟩:=P6.blk;have P6:=P6.vend vt vs;have hi6:InX _ r z:=hi6.gr (jb3 (jc0 _ (w2.heap.size+1) 0 (.string vt)) (jc0 _ (w2.heap.size+1) 1 (.int .i64 vs))) (by have:=HP2.out.hH;simp;omega);obtain⟨s0,s1,s2,s3,s4⟩:=P6.scan)
  | (go_at_call 71;refine(K7.out _ hi6).mono ?_;rintro e w7 ⟨rfl,hb7⟩;have P7:=P6.bel hb7;have hi7:=hi6.bel hb7;obtain⟨s0,s1,s2,s3,s4⟩:=P7.scan)
  | (go_at_call 81;refine(K8.out _ hi7).mono ?_;rintro e w8 ⟨rfl,hi8,hg8⟩;have P8:=P7.gr hg8))
 go_loopw [53] (fun iv wr=>∃(i:Nat) (y:RS) (acc:List Nt) (v:Value),iv=.int .u64 (i:Int)∧i≤n∧acc.length=i∧PS w r w2.heap.size kd fb bu g vt vs v wr∧InX wr r y∧okR y∧Hid (y.s=x.s)∧wr.ownsRow (w2.heap.size+2) 102 3 v i (ntcells acc)∧Hid (notesR (RM fb g) (n-i) y acc=(zq,NL))) (fun iv _=>n-(intOf iv).toNat)
 case atStart=>exact⟨0,u,[],.slice none 0 0,rfl,Nat.zero_le _,rfl,P8,hi8,hku,HSU,World.ownsRow_nil _ _ _ _,HQ⟩
 case round=>
  obtain⟨i,y,acc,v,rfl,hin,hal,Pr,hir,hoky,hys,hown,hN⟩:=hrel;have hH:=Pr.hH;have hrl:=Pr.hr;clear hb4 hb5 hg3 hg6 P3 P4 P5 P6 hi3 hi5 hi6 hi7 hi8 P7 P8 hg8 hb7 b0 b0' b1 b1' s0 s1 s2 s3 s4;by_cases hlt:i<n
  · obtain⟨s0,s1,s2,s3,s4⟩:=Pr.scan
    obtain⟨m,hm⟩:∃m,n-i=m+1:=⟨n-i-1,by omega⟩;have hN2:=hN.out;rw[hm]at hN2;have ltI:(i:Int)<(n:Int):=by omega
    by_cases he:y.e=0
    · rw[notesR,if_neg (by simpa using he)]at hN2
      have hm2:n-(i+1)=m:=by omega
      have d4:(!decide (y.e=0))=false:=by simpa using he
      have kb:=KB2.out y.e y.a;rw[d4]at kb;have wi:IntKind.u64.wrap ((i:Int)+1)=(i:Int)+1:=jd3 _ (by omega) (by omega);have hokn:=okR_note (R:=RM fb g) hoky;have hysn:=(noteR_s (R:=RM fb g) y).trans hys.out;have hszy:y.s.size≤1048576:=by rw[hys.out];exact HSX.out
      have kn:=fun w hT h=>KN2.out w y hT h hoky hszy
      generalize noteR (RM fb g) y=NR at *;obtain⟨y2,nt⟩:=NR;simp only at kn hN2 hokn hysn;have hab:(i+1)*40≤140737488355328:=by omega
      have hal2:i<70368744177664:=by omega
      have KB:=Lib.hid kb;have KN:=Lib.hid kn;have HN2:=Lib.hid hN2;have HM2:=Lib.hid hm2;have HYSN:=Lib.hid hysn;have HOKN:=Lib.hid hokn;have HAB:=Lib.hid hab;have HAL2:=Lib.hid hal2;clear kb kn hN2 hm2 hysn hokn hab hal2;clear hN hm d4 he
      go_wp2_with (first
       | (go_at_call 43;refine(KF2.out _ _ _ hir).mono ?_;rintro e wa ⟨rfl,hba⟩;have Pa:=Pr.bel hba)
       | (go_at_call 16;refine(KB.out _).mono ?_;rintro e wb ⟨rfl,hbb⟩;have Pb:=Pa.bel hbb;have hib:=(hir.bel hba).bel hbb;have hob:=jb2 (jb2 hown hba) hbb;obtain⟨s0,s1,s2,s3,s4⟩:=Pb.scan;have s5:=Pb.blk.2.2.1;have hTb:=HT.out.grown Pb.gg (by intro k hk;cases hk;exact hr)))
      have n0:=World.new_ne _ _ s0;have n5:=World.new_ne _ _ s5;clear hba hbb Pa Pr hir hown
      go_region_law (first
       | (go_simp;go_at_call 82;refine(KN.out _ ?_ ?_).mono ?_;(first|exact hTb.drew|exact hTb|exact hTb.drewN _);(first|exact hib.bel (Below.refl _ _).drew|exact hib|exact hib.bel (bdn (Below.refl _ _) _));rintro e wc ⟨rfl,hic,hgc⟩;have Pc:=Pb.gr (jb3 (jc1 (Below.refl wb.heap.size wb).drew) hgc);have hoc:=jb5 hob (fun q hq=>hgc.block q (jb7 hob q hq).2 (by have:=(jb7 hob q hq).1;simp;omega));have s5c:=Pc.blk.2.2.1;have n5c:=World.new_ne _ _ s5c;have s5d:=kc (bal (Below.refl wc.heap.size wc) (.cells #[.string nt.name,.string nt.text,.int .i64 nt.set] 102)) s5c;obtain⟨z0,z1,z2,z3,z4⟩:=Pc.scan)
       | (refine kr5 rfl _ _ 31 102 rfl Tryz.underlying31 (.agg #[.string ⟨#[]⟩,.string ⟨#[]⟩,.int .i64 0]) 3 40 infoNote rfl (by decide) wc (w2.heap.size+2) v i (ntcells acc) rfl hoc #[.string nt.name,.string nt.text,.int .i64 nt.set] rfl (by simp[Value.oneCell']) rfl HAL2.out HAB.out Pc.sz ?_;intro v' wd hownd hbd;have Pd:=Pc.belB hbd;have hid:InX wd r y2:=InC.blk hic (hbd.block r (by omega));obtain⟨_,_,⟨bz,bz'⟩⟩:=Pd.blk;obtain⟨av,cv,rfl⟩:=jb4 hownd))
      all_goals
       have Pe:=Pd.notes (.slice av (i+1) cv);have hoe:(wd.setCell ⟨w2.heap.size+1,2,none⟩ (.slice av (i+1) cv)).ownsRow (w2.heap.size+2) 102 3 (.slice av (i+1) cv) (i+1) (ntcells (acc ++ [nt])):=by
        rw[qh9];exact jb5 hownd (fun q hq=>Below.heap_setCell _ _ _ q (by have:=(jb7 hownd q hq).1;simp;omega))
       have hie:InX (wd.setCell ⟨w2.heap.size+1,2,none⟩ (.slice av (i+1) cv)) r y2:=hid.gr (jc0 _ _ _ _) (by simp;omega)
       go_wp2
       go_roundw
       case rel=>exact⟨i+1,y2,acc ++ [nt],_,by go_num,by omega,by simp[hal],Pe,hie,HOKN.out,HYSN,hoe,Lib.hid (by rw[HM2.out];exact HN2.out)⟩
       case measure=>simp[intOf];omega
    · rw[jv9 _ _ _ _ he,Prod.mk.injEq]at hN2
      have hres:RES=(y,none):=by rw[HRS.out,←hN2.1,kf1 fr y he,if_pos he]
      have kf:=fun w h=>jc5 w r y h
      have kb:=KB2.out y.e y.a;have d5:(!decide (y.e=0))=true:=by simpa using he
      rw[d5]at kb;have KF5:=Lib.hid kf;have KB5:=Lib.hid kb;have HR5:=Lib.hid hres;clear kf kb hres;clear hN hN2 he d5 hm
      go_wp2_with (first
       | (go_at_call 43;refine(KF5.out _ hir).mono ?_;rintro e wf ⟨rfl,hbf⟩;have Pf:=Pr.bel hbf)
       | (go_at_call 16;refine(KB5.out _).mono ?_;rintro e wg ⟨rfl,hbg⟩;have Pg:=Pf.bel hbg;obtain⟨⟨q0,q0'⟩,⟨q1,q1'⟩,⟨q2,q2'⟩⟩:=Pg.res))
      refine bodyPost_ret (v:=noneV) (by simp[results,Tryz.results42,go_sem,q0,q1,q2,q0',q1',q2',noneV]) rfl ?_;rw[HR5.out];exact jk1 Pg ((hir.bel hbf).bel hbg)
  · have hin2:i=n:=by omega
    have ltI:¬(i:Int)<(n:Int):=by omega
    have hN2:=hN.out;rw[hin2,Nat.sub_self,notesR,Prod.mk.injEq]at hN2;have hres:=HRS.out;rw[←hN2.1,←hN2.2]at hres;obtain⟨s0,s1,s2,s3,s4⟩:=Pr.scan;obtain⟨av,cv,rfl⟩:=jb4 hown;have hok0:True:=trivial;clear hN hN2 hin2 hlt;cases fr
    · have hv:(if false=true then(wantR y frameB).1 else y)=y:=if_neg (by decide)
      have hEm:=qm6 hv;have hEd:=qm7 hv;clear hv;have hokv:okR y:=hoky;have kl:=fun w h=>kh0 w r y h hokv
      have kf:=fun w h=>jc5 w r y h
      have kb:=fun w=>jb8 y.e y.a w
      by_cases hl:0<leftR y
      · have hE:=hEm hl
        have hbad:=jp3 y 1 ((y.b:Int)+y.n) (by decide);rw[hE,if_pos hbad]at hres;have kt:=fun w h=>kn0 w r y h hokv
        have kg:=fun w h=>jj1 w r y 1 ((y.b:Int)+y.n) h
        generalize failR y 1 ((y.b:Int)+y.n)=fz at *;have kh:=fun w h=>jc5 w r fz h
        have kc:=fun w=>jb8 fz.e fz.a w
        have d5:(!decide (fz.e=0))=true:=by simpa using hbad
        rw[d5]at kc;have hl2:leftR y > 0:=hl;have KL:=Lib.hid kl;have KT:=Lib.hid kt;have KG:=Lib.hid kg;have KH:=Lib.hid kh;have KC:=Lib.hid kc;have HR5:=Lib.hid hres;clear kl kt kg kh kc hres;clear hE hEm hEd hbad d5 kf kb hl hok0
        go_wp2_with (first
         | (go_at_call 83;refine(KL.out _ hir).mono ?_;rintro e wb ⟨rfl,hbb⟩;have Pb:=Pr.bel hbb;have hib:=hir.bel hbb;obtain⟨s0,s1,s2,s3,s4⟩:=Pb.scan)
         | fail)
        go_region_held3 (fun w'=>w'.cell? ⟨w2.heap.size,0,none⟩=some (.pointer (some ⟨r,0,none⟩)))
         (first|(exact(Pe.scan).1)|(exact(Pd.scan).1)|go_keep)
         (first
           | (go_at_call 71;refine(KT.out _ ?_).mono ?_;(first|exact hib.bel (Below.refl _ _).drew|exact hib);rintro e wd ⟨rfl,hbd⟩;have Pd:=Pb.bel (bt (Below.refl wb.heap.size wb).drew hbd);have hid:=hib.bel (bt (Below.refl wb.heap.size wb).drew hbd))
           | (go_at_call 73;refine(KG.out _ hid).mono ?_;rintro e we ⟨rfl,hie,hge⟩;have Pe:=Pd.gr hge))
        obtain⟨s0,s1,s2,s3,s4⟩:=Pe.scan
        go_wp2_with (first
         | (go_at_call 43;refine(KH.out _ hie).mono ?_;rintro e wf ⟨rfl,hbf⟩;have Pf:=Pe.bel hbf)
         | (go_at_call 16;refine(KC.out _).mono ?_;rintro e wg ⟨rfl,hbg⟩;have Pg:=Pf.bel hbg;obtain⟨⟨q0,q0'⟩,⟨q1,q1'⟩,⟨q2,q2'⟩⟩:=Pg.res))
        refine bodyPost_ret (v:=noneV) (by simp[results,Tryz.results42,go_sem,q0,q1,q2,q0',q1',q2',noneV]) rfl ?_;rw[HR5.out];exact jk1 Pg ((hie.bel hbf).bel hbg)
      · have hE:=hEd hl
        rw[hE]at hres;have hl2:¬leftR y > 0:=hl;by_cases he:y.e=0
        · rw[if_neg (by simpa using he)]at hres
          have d5:(!decide (y.e=0))=false:=by simpa using he
          rw[d5]at kb;have KL:=Lib.hid kl;have KF5:=Lib.hid kf;have KB5:=Lib.hid kb;have HR5:=Lib.hid hres;clear kl kf kb hres;clear hE hEm hEd d5 he hl hok0
          go_wp2_with (first
           | (go_at_call 83;refine(KL.out _ hir).mono ?_;rintro e wb ⟨rfl,hbb⟩;have Pb:=Pr.bel hbb;have hib:=hir.bel hbb;obtain⟨s0,s1,s2,s3,s4⟩:=Pb.scan)
           | (go_at_call 43;refine(KF5.out _ hib).mono ?_;rintro e wf ⟨rfl,hbf⟩;have Pf:=Pb.bel hbf)
           | (go_at_call 16;refine(KB5.out _).mono ?_;rintro e wg ⟨rfl,hbg⟩;have Pg:=Pf.bel hbg;obtain⟨⟨q0,q0'⟩,⟨q1,q1'⟩,⟨q2,q2'⟩⟩:=Pg.res;obtain⟨⟨t0,_⟩,⟨t1,_⟩,⟨t2,_⟩⟩:=Pg.blk))
          have hog:=jb2 (jb2 (jb2 hown hbb) hbf) hbg;refine bodyPost_ret (v:=.tuple #[.agg #[.string vt,.int .i64 vs,.slice av i cv],.bool true]) (by simp[results,Tryz.results42,go_sem,q0,q1,q2,q0',q1',q2']) rfl ?_;rw[HR5.out];have hgz:=jb3 (jb3 (jc0 wg (w.heap.size+1) 0 (.string vt)) (jc0 _ (w.heap.size+1) 1 (.int .i64 vs))) (jc0 _ (w.heap.size+1) 2 (.slice av i cv));refine⟨((hib.bel hbf).bel hbg).gr hgz (by simp;omega),jb9 (jb9 (jb9 Pg.gg (by simp) _) (by simp) _) (by simp) _,.slice av i cv,rfl,?_⟩;simp only;rw[hal];exact jc3 (jb5 hog fun k hk=>hgz.block k (jb7 hog k hk).2 (by have:=(jb7 hog k hk).1;simp;omega)) (by omega)
        · rw[if_pos he]at hres
          have d5:(!decide (y.e=0))=true:=by simpa using he
          rw[d5]at kb;have KL:=Lib.hid kl;have KF5:=Lib.hid kf;have KB5:=Lib.hid kb;have HR5:=Lib.hid hres;clear kl kf kb hres;clear hE hEm hEd d5 he hl hok0
          go_wp2_with (first
           | (go_at_call 83;refine(KL.out _ hir).mono ?_;rintro e wb ⟨rfl,hbb⟩;have Pb:=Pr.bel hbb;have hib:=hir.bel hbb;obtain⟨s0,s1,s2,s3,s4⟩:=Pb.scan)
           | (go_at_call 43;refine(KF5.out _ hib).mono ?_;rintro e wf ⟨rfl,hbf⟩;have Pf:=Pb.bel hbf)
           | (go_at_call 16;refine(KB5.out _).mono ?_;rintro e wg ⟨rfl,hbg⟩;have Pg:=Pf.bel hbg;obtain⟨⟨q0,q0'⟩,⟨q1,q1'⟩,⟨q2,q2'⟩⟩:=Pg.res))
          refine bodyPost_ret (v:=noneV) (by simp[results,Tryz.results42,go_sem,q0,q1,q2,q0',q1',q2',noneV]) rfl ?_;rw[HR5.out];exact jk1 Pg ((hib.bel hbf).bel hbg)
    · have kw:=fun w h=>jt6 w r y frameB h hoky (by decide)
      have hv:(if true=true then(wantR y frameB).1 else y)=(wantR y frameB).1:=if_pos rfl;have hEm:=qm6 hv;have hEd:=qm7 hv;clear hv;have hokv:okR (wantR y frameB).1:=jt1 hoky frameB;have efb:(⟨#[1]⟩:ByteArray)=frameB:=rfl;generalize wantR y frameB=WV at *;obtain⟨q,wb0⟩:=WV;simp only at kw hokv hEm hEd;have kl:=fun w h=>kh0 w r q h hokv
      have kf:=fun w h=>jc5 w r q h
      have kb:=fun w=>jb8 q.e q.a w
      by_cases hl:0<leftR q
      · have hE:=hEm hl
        have hbad:=jp3 q 1 ((q.b:Int)+q.n) (by decide);rw[hE,if_pos hbad]at hres;have kt:=fun w h=>kn0 w r q h hokv
        have kg:=fun w h=>jj1 w r q 1 ((q.b:Int)+q.n) h
        generalize failR q 1 ((q.b:Int)+q.n)=fz at *;have kh:=fun w h=>jc5 w r fz h
        have kc:=fun w=>jb8 fz.e fz.a w
        have d5:(!decide (fz.e=0))=true:=by simpa using hbad
        rw[d5]at kc;have hl2:leftR q > 0:=hl;have KL:=Lib.hid kl;have KT:=Lib.hid kt;have KG:=Lib.hid kg;have KH:=Lib.hid kh;have KC:=Lib.hid kc;have HR5:=Lib.hid hres;have KW:=Lib.hid kw;clear kl kt kg kh kc hres kw;clear hE hEm hEd hbad d5 kf kb hl hok0
        go_wp2_with (first
         | (go_at_call 41;refine(KW.out _ hir).mono ?_;rintro e wa ⟨rfl,hia,hga⟩;have Pa:=Pr.gr hga;obtain⟨s0,s1,s2,s3,s4⟩:=Pa.scan)
         | (go_at_call 83;refine(KL.out _ hia).mono ?_;rintro e wb ⟨rfl,hbb⟩;have Pb:=Pa.bel hbb;have hib:=hia.bel hbb;obtain⟨s0,s1,s2,s3,s4⟩:=Pb.scan)
         | fail)
        go_region_held3 (fun w'=>w'.cell? ⟨w2.heap.size,0,none⟩=some (.pointer (some ⟨r,0,none⟩)))
         (first|(exact(Pe.scan).1)|(exact(Pd.scan).1)|go_keep)
         (first
           | (go_at_call 71;refine(KT.out _ ?_).mono ?_;(first|exact hib.bel (Below.refl _ _).drew|exact hib);rintro e wd ⟨rfl,hbd⟩;have Pd:=Pb.bel (bt (Below.refl wb.heap.size wb).drew hbd);have hid:=hib.bel (bt (Below.refl wb.heap.size wb).drew hbd))
           | (go_at_call 73;refine(KG.out _ hid).mono ?_;rintro e we ⟨rfl,hie,hge⟩;have Pe:=Pd.gr hge))
        obtain⟨s0,s1,s2,s3,s4⟩:=Pe.scan
        go_wp2_with (first
         | (go_at_call 43;refine(KH.out _ hie).mono ?_;rintro e wf ⟨rfl,hbf⟩;have Pf:=Pe.bel hbf)
         | (go_at_call 16;refine(KC.out _).mono ?_;rintro e wg ⟨rfl,hbg⟩;have Pg:=Pf.bel hbg;obtain⟨⟨q0,q0'⟩,⟨q1,q1'⟩,⟨q2,q2'⟩⟩:=Pg.res))
        refine bodyPost_ret (v:=noneV) (by simp[results,Tryz.results42,go_sem,q0,q1,q2,q0',q1',q2',noneV]) rfl ?_;rw[HR5.out];exact jk1 Pg ((hie.bel hbf).bel hbg)
      · have hE:=hEd hl
        rw[hE]at hres;have hl2:¬leftR q > 0:=hl;by_cases he:q.e=0
        · rw[if_neg (by simpa using he)]at hres
          have d5:(!decide (q.e=0))=false:=by simpa using he
          rw[d5]at kb;have KL:=Lib.hid kl;have KF5:=Lib.hid kf;have KB5:=Lib.hid kb;have HR5:=Lib.hid hres;have KW:=Lib.hid kw;clear kl kf kb hres kw;clear hE hEm hEd d5 he hl hok0
          go_wp2_with (first
           | (go_at_call 41;refine(KW.out _ hir).mono ?_;rintro e wa ⟨rfl,hia,hga⟩;have Pa:=Pr.gr hga;obtain⟨s0,s1,s2,s3,s4⟩:=Pa.scan)
           | (go_at_call 83;refine(KL.out _ hia).mono ?_;rintro e wb ⟨rfl,hbb⟩;have Pb:=Pa.bel hbb;have hib:=hia.bel hbb;obtain⟨s0,s1,s2,s3,s4⟩:=Pb.scan)
           | (go_at_call 43;refine(KF5.out _ hib).mono ?_;rintro e wf ⟨rfl,hbf⟩;have Pf:=Pb.bel hbf)
           | (go_at_call 16;refine(KB5.out _).mono ?_;rintro e wg ⟨rfl,hbg⟩;have Pg:=Pf.bel hbg;obtain⟨⟨q0,q0'⟩,⟨q1,q1'⟩,⟨q2,q2'⟩⟩:=Pg.res;obtain⟨⟨t0,_⟩,⟨t1,_⟩,⟨t2,_⟩⟩:=Pg.blk))
          have hog:=jb2 (jb2 (jb2 (jb5 hown fun k hk=>hga.block k (jb7 hown k hk).2 (by have:=(jb7 hown k hk).1;simp;omega)) hbb) hbf) hbg;refine bodyPost_ret (v:=.tuple #[.agg #[.string vt,.int .i64 vs,.slice av i cv],.bool true]) (by simp[results,Tryz.results42,go_sem,q0,q1,q2,q0',q1',q2']) rfl ?_;rw[HR5.out];have hgz:=jb3 (jb3 (jc0 wg (w.heap.size+1) 0 (.string vt)) (jc0 _ (w.heap.size+1) 1 (.int .i64 vs))) (jc0 _ (w.heap.size+1) 2 (.slice av i cv));refine⟨((hib.bel hbf).bel hbg).gr hgz (by simp;omega),jb9 (jb9 (jb9 Pg.gg (by simp) _) (by simp) _) (by simp) _,.slice av i cv,rfl,?_⟩;simp only;rw[hal];exact jc3 (jb5 hog fun k hk=>hgz.block k (jb7 hog k hk).2 (by have:=(jb7 hog k hk).1;simp;omega)) (by omega)
        · rw[if_pos he]at hres
          have d5:(!decide (q.e=0))=true:=by simpa using he
          rw[d5]at kb;have KL:=Lib.hid kl;have KF5:=Lib.hid kf;have KB5:=Lib.hid kb;have HR5:=Lib.hid hres;have KW:=Lib.hid kw;clear kl kf kb hres kw;clear hE hEm hEd d5 he hl hok0
          go_wp2_with (first
           | (go_at_call 41;refine(KW.out _ hir).mono ?_;rintro e wa ⟨rfl,hia,hga⟩;have Pa:=Pr.gr hga;obtain⟨s0,s1,s2,s3,s4⟩:=Pa.scan)
           | (go_at_call 83;refine(KL.out _ hia).mono ?_;rintro e wb ⟨rfl,hbb⟩;have Pb:=Pa.bel hbb;have hib:=hia.bel hbb;obtain⟨s0,s1,s2,s3,s4⟩:=Pb.scan)
           | (go_at_call 43;refine(KF5.out _ hib).mono ?_;rintro e wf ⟨rfl,hbf⟩;have Pf:=Pb.bel hbf)
           | (go_at_call 16;refine(KB5.out _).mono ?_;rintro e wg ⟨rfl,hbg⟩;have Pg:=Pf.bel hbg;obtain⟨⟨q0,q0'⟩,⟨q1,q1'⟩,⟨q2,q2'⟩⟩:=Pg.res))
          refine bodyPost_ret (v:=noneV) (by simp[results,Tryz.results42,go_sem,q0,q1,q2,q0',q1',q2',noneV]) rfl ?_;rw[HR5.out];exact jk1 Pg ((hib.bel hbf).bel hbg)
end Go.Proofs.YtagjkmkmphamoaaGreatDoor
