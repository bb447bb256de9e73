/- B6 -/
import Derived.Test.YtagjkmkmphamoaaGreatDoorPB5
set_option linter.all false
set_option maxHeartbeats 16000000
namespace Go.Proofs.YtagjkmkmphamoaaGreatDoor
open Go.RowKit
abbrev noSC:Array Value:=#[.int .u8 0,.int .u64 0,.int .u32 0,.int .u32 0,.string ⟨#[]⟩,.string ⟨#[]⟩,.string ⟨#[]⟩,.int .i64 0,.slice none 0 0,.string ⟨#[]⟩,.slice none 0 0]
structure OP (w:World) (kd fb bu:Int) (g:Bool) (F:Nat) (v1 v2:Value) (l:List PG) (pl:List Nat) (c a:Int) (wr:World):Prop where
 gg:Below w.heap.size w wr
 op:wr.heap[w.heap.size]?=some (.cells #[.int .i64 kd,.int .i64 fb,.bool g,.int .i64 bu] 67 (0,0))
 rs:wr.heap[w.heap.size+1]?=some (.cells noSC 36 (0,0))
 rt:wr.heap[w.heap.size+1+1]?=some (.cells #[.int .i64 0,.int .i64 0] 54 (0,0))
 f1:wr.heap[F]?=some (.cells #[.int .i64 c,.int .i64 a] 54 (0,0))
 hF:w.heap.size+3≤F
 r1:wr.ownsRow (w.heap.size+3) 27 6 v1 l.length (gcells l)
 r2:wr.ownsRow (w.heap.size+3) 3 1 v2 l.length (ncells (plV pl))
section
variable {w wr:World} {kd fb bu:Int} {g:Bool} {F:Nat} {v1 v2:Value} {l:List PG} {pl:List Nat} {c a:Int}
theorem OP.bel(h:OP w kd fb bu g F v1 v2 l pl c a wr){w':World}(hb:Below wr.heap.size wr w'):OP w kd fb bu g F v1 v2 l pl c a w':=by
 obtain⟨h1,h2,h3,h4,h5,h6,h7,h8⟩:=h;exact⟨bt h1 hb,blkP h2 hb,blkP h3 hb,blkP h4 hb,blkP h5 hb,h6,jb2 h7 hb,jb2 h8 hb⟩
theorem OP.opt(h:OP w kd fb bu g F v1 v2 l pl c a wr):wr.cell? ⟨w.heap.size,0,none⟩=some (.int .i64 kd)∧wr.cell? ⟨w.heap.size,1,none⟩=some (.int .i64 fb)∧wr.cell? ⟨w.heap.size,2,none⟩=some (.bool g)∧wr.cell? ⟨w.heap.size,3,none⟩=some (.int .i64 bu):=
 ⟨(jb0 h.op 0 _ rfl).1,(jb0 h.op 1 _ rfl).1,(jb0 h.op 2 _ rfl).1,(jb0 h.op 3 _ rfl).1⟩
theorem OP.fl(h:OP w kd fb bu g F v1 v2 l pl c a wr):wr.cell? ⟨F,0,none⟩=some (.int .i64 c)∧wr.frozen? ⟨F,0,none⟩=false∧wr.cell? ⟨F,1,none⟩=some (.int .i64 a)∧wr.frozen? ⟨F,1,none⟩=false:=
 ⟨(jb0 h.f1 0 _ rfl).1,(jb0 h.f1 0 _ rfl).2,(jb0 h.f1 1 _ rfl).1,(jb0 h.f1 1 _ rfl).2⟩
theorem OP.res(h:OP w kd fb bu g F v1 v2 l pl c a wr)(i:Nat)(v:Value)(hi:noSC[i]?=some v):wr.cell? ⟨w.heap.size+1,i,none⟩=some v∧wr.frozen? ⟨w.heap.size+1,i,none⟩=false:=jb0 h.rs i v hi
theorem OP.ret(h:OP w kd fb bu g F v1 v2 l pl c a wr):wr.cell? ⟨w.heap.size+1+1,0,none⟩=some (.int .i64 0)∧wr.frozen? ⟨w.heap.size+1+1,0,none⟩=false∧wr.cell? ⟨w.heap.size+1+1,1,none⟩=some (.int .i64 0)∧wr.frozen? ⟨w.heap.size+1+1,1,none⟩=false:=
 ⟨(jb0 h.rt 0 _ rfl).1,(jb0 h.rt 0 _ rfl).2,(jb0 h.rt 1 _ rfl).1,(jb0 h.rt 1 _ rfl).2⟩
theorem OP.fault(h:OP w kd fb bu g F v1 v2 l pl c a wr)(c' a':Int):OP w kd fb bu g F v1 v2 l pl c' a' ((wr.setCell ⟨F,0,none⟩ (.int .i64 c')).setCell ⟨F,1,none⟩ (.int .i64 a')):=by
 obtain⟨h1,h2,h3,h4,h5,h6,h7,h8⟩:=h;have s1:=Go.Lib.heap_setCell_same (i:=0) h5 (.int .i64 c');have s2:=Go.Lib.heap_setCell_same (i:=1) s1 (.int .i64 a');have hj:∀j,j≠F→((wr.setCell ⟨F,0,none⟩ (.int .i64 c')).setCell ⟨F,1,none⟩ (.int .i64 a')).heap[j]?=wr.heap[j]?:=by
  intro j hj;rw[Below.heap_setCell _ _ _ j (by simpa using hj),Below.heap_setCell _ _ _ j (by simpa using hj)]
 refine⟨(h1.setCell (by simp;omega) _).setCell (by simp;omega) _,?_,?_,?_,?_,h6,?_,?_⟩
 · rw[hj _ (by omega)];exact h2
 · rw[hj _ (by omega)];exact h3
 · rw[hj _ (by omega)];exact h4
 · rw[s2];simp
 · exact jb5 h7 fun q hq=>hj q (fun e=>jd0 h7 h5 (by decide) (by rw[hq,e]))
 · exact jb5 h8 fun q hq=>hj q (fun e=>jd0 h8 h5 (by decide) (by rw[hq,e]))
end
theorem kk5{wr:World}{F:Nat}{c a c' a':Int}{B:Nat}{e:TypeId}{s n:Nat}{v:Value}{cs:List Value}(h5:wr.heap[F]?=some (.cells #[.int .i64 c,.int .i64 a] 54 (0,0)))(h:wr.ownsRow B e s v n cs)(hne:e≠54):((wr.setCell ⟨F,0,none⟩ (.int .i64 c')).setCell ⟨F,1,none⟩ (.int .i64 a')).ownsRow B e s v n cs:=
 jb5 h fun q hq=>by
  have:q≠F:=fun e=>jd0 h h5 hne (by rw[hq,e])
  rw[Below.heap_setCell _ _ _ q (by simpa using this),Below.heap_setCell _ _ _ q (by simpa using this)]
def osV(vn vs:Value)(s:OS):Value:=.agg #[.int .u8 s.first.fl.toNat,.int .u64 s.first.po,.int .u32 s.first.se,.int .u32 s.first.nu,.string s.first.la,.string s.first.bo,.string s.b.vt,.int .i64 s.b.vs,vn,.string s.setup,vs]
def OParsePost(R:OS×Int×Int)(w:World)(e:Ending)(w':World):Prop:=Below w.heap.size w w'∧∃vn vs,e=.returned (.tuple #[osV vn vs R.1,.agg #[.int .i64 R.2.1,.int .i64 R.2.2]]) ∧
 w'.ownsRow w.heap.size 102 3 vn R.1.b.ns.length (ntcells R.1.b.ns)∧w'.ownsRow w.heap.size 27 6 vs R.1.sound.length (gcells R.1.sound)
abbrev st13(wr:World)(b:Nat)(x0 x1 x2 x3 x4 x5 x6 x7 x8 x9 x10 c a:Value):World:=
 ((((((((((((wr.setCell ⟨b+1,0,none⟩ x0).setCell ⟨b+1,1,none⟩ x1).setCell ⟨b+1,2,none⟩ x2).setCell ⟨b+1,3,none⟩ x3).setCell ⟨b+1,4,none⟩ x4).setCell ⟨b+1,5,none⟩ x5).setCell ⟨b+1,6,none⟩ x6).setCell ⟨b+1,7,none⟩ x7).setCell ⟨b+1,8,none⟩ x8).setCell ⟨b+1,9,none⟩ x9).setCell ⟨b+1,10,none⟩ x10).setCell ⟨b+1+1,0,none⟩ c).setCell ⟨b+1+1,1,none⟩ a
theorem kz0{w wr:World}(h:Below w.heap.size w wr)(x0 x1 x2 x3 x4 x5 x6 x7 x8 x9 x10 c a:Value):Below w.heap.size w (st13 wr w.heap.size x0 x1 x2 x3 x4 x5 x6 x7 x8 x9 x10 c a):=by
 unfold st13
 iterate 13 refine Below.setCell ?_ (by simp<;>omega) _
 exact h
theorem kf8{w wr:World}{e:TypeId}{s n:Nat}{v:Value}{cs:List Value}(h:wr.ownsRow (w.heap.size+3) e s v n cs)(x0 x1 x2 x3 x4 x5 x6 x7 x8 x9 x10 c a:Value):(st13 wr w.heap.size x0 x1 x2 x3 x4 x5 x6 x7 x8 x9 x10 c a).ownsRow w.heap.size e s v n cs:=by
 refine jc3 (jb5 h fun q hq=>?_) (by omega);have:=(jb7 h q hq).1;unfold st13
 iterate 13 rw[Below.heap_setCell _ _ _ q (by simp;omega)]
theorem jg4{w wr:World}(h:Below w.heap.size w wr)(c a:Int):
 OParsePost (noOS,c,a) w (.returned (.tuple #[.agg noSC,.agg #[.int .i64 c,.int .i64 a]])) (st13 wr w.heap.size (.int .u8 0) (.int .u64 0) (.int .u32 0) (.int .u32 0) (.string ⟨#[]⟩) (.string ⟨#[]⟩) (.string ⟨#[]⟩) (.int .i64 0) (.slice none 0 0) (.string ⟨#[]⟩) (.slice none 0 0) (.int .i64 c) (.int .i64 a)):=
 ⟨kz0 h _ _ _ _ _ _ _ _ _ _ _ _ _,.slice none 0 0,.slice none 0 0,rfl,World.ownsRow_nil _ _ _ _,World.ownsRow_nil _ _ _ _⟩
theorem jm1(w:World)(kd fb bu:Int)(g:Bool):∃W,W=((w.alloc (.cells #[.int .i64 kd,.int .i64 fb,.bool g,.int .i64 bu] 67)).alloc (.cells noSC 36)).alloc (.cells #[.int .i64 0,.int .i64 0] 54)∧W.heap.size=w.heap.size+3∧Below w.heap.size w W ∧
 W.heap[w.heap.size]?=some (.cells #[.int .i64 kd,.int .i64 fb,.bool g,.int .i64 bu] 67 (0,0))∧W.heap[w.heap.size+1]?=some (.cells noSC 36 (0,0))∧W.heap[w.heap.size+1+1]?=some (.cells #[.int .i64 0,.int .i64 0] 54 (0,0)):=by
 have hs1:(w.alloc (.cells #[.int .i64 kd,.int .i64 fb,.bool g,.int .i64 bu] 67)).heap.size=w.heap.size+1:=World.size_alloc _ _;have hs2:((w.alloc (.cells #[.int .i64 kd,.int .i64 fb,.bool g,.int .i64 bu] 67)).alloc (.cells noSC 36)).heap.size=w.heap.size+2:=by rw[World.size_alloc,hs1]
 refine⟨_,rfl,by rw[World.size_alloc,hs2],bal (bal (bal (Below.refl _ _) _) _) _,?_,?_,?_⟩
 · exact(heap_alloc_old _ _ (by rw[hs2];omega)).trans ((heap_alloc_old _ _ (by rw[hs1];omega)).trans (heap_alloc_new _ _))
 · rw[←hs1];exact(heap_alloc_old _ _ (by rw[hs2,hs1];omega)).trans (heap_alloc_new _ _)
 · rw[show w.heap.size+1+1=w.heap.size+2 from rfl,←hs2];exact heap_alloc_new _ _
theorem qh8{w W w1:World}{kd fb bu:Int}{g:Bool}{R:(List PG×List Nat)×Int×Int}{v1 v2:Value}(hWs:W.heap.size=w.heap.size+3)(hbW:Below w.heap.size w W)
 (h0:W.heap[w.heap.size]?=some (.cells #[.int .i64 kd,.int .i64 fb,.bool g,.int .i64 bu] 67 (0,0))) (h1:W.heap[w.heap.size+1]?=some (.cells noSC 36 (0,0))) (h2:W.heap[w.heap.size+1+1]?=some (.cells #[.int .i64 0,.int .i64 0] 54 (0,0)))
 (hb:Below W.heap.size W w1) (r1:w1.ownsRow W.heap.size 27 6 v1 R.1.1.length (gcells R.1.1)) (r2:w1.ownsRow W.heap.size 3 1 v2 R.1.1.length (ncells (plV R.1.2))):
 OP w kd fb bu g w1.heap.size v1 v2 R.1.1 R.1.2 R.2.1 R.2.2 (w1.alloc (.cells #[.int .i64 R.2.1,.int .i64 R.2.2] 54)):=by
 have hb2:=bal hb (.cells #[.int .i64 R.2.1,.int .i64 R.2.2] 54);have hb3:=bal (Below.refl w1.heap.size w1) (.cells #[.int .i64 R.2.1,.int .i64 R.2.2] 54);have:=hb.size;rw[hWs]at r1 r2;exact⟨bt hbW hb2,blkP h0 hb2,blkP h1 hb2,blkP h2 hb2,heap_alloc_new _ _,by omega,jb2 r1 hb3,jb2 r2 hb3⟩
theorem OParsePost.drew{R:OS×Int×Int}{w wr:World}{e:Ending}(h:OParsePost R w e wr):OParsePost R w e wr.drew:=by
 obtain⟨h1,vn,vs,h2,h3,h4⟩:=h;have hb:=(Below.refl wr.heap.size wr).drew;exact⟨bt h1 hb,vn,vs,h2,jb2 h3 hb,jb2 h4 hb⟩
theorem jn5(s:ByteArray)(h:(pagesM crcN s).2.1=0):(∀p∈(pagesM crcN s).1.1,gG p)∧((pagesM crcN s).1.1.map gsz).sum≤s.size∧(pagesM crcN s).1.2.length=(pagesM crcN s).1.1.length∧(pagesM crcN s).1.1.length≤1048576:=by
 unfold pagesM at h ⊢;split
 · rename_i c;rw[if_pos c]at h;exact absurd h c
 · rename_i c
   exact vg5 crcN _ ⟨s,0,0,0,0⟩ [] [] (Nat.zero_le _) rfl (fun p hp=>by cases hp) rfl rfl (Nat.zero_le _) (Classical.byContradiction fun x=>c x)
theorem qx8(se:Nat):∀(l:List PG) (i k:Nat),strayF se l i=some k→k<i+l.length
 | [],i,k,h=>by simp[strayF]at h
 | p::r,i,k,h=>by
  rw[strayF]at h;split at h
  · simp only[Option.some.injEq]at h
    rw[List.length_cons];omega
  · have:=qx8 se r (i+1) k h
    rw[List.length_cons];omega
theorem jk0{w:World}{B:Nat}{e:TypeId}{s n m:Nat}{av:Option Addr}{cap:Nat}{p:PG}{r:List PG}(h:w.ownsRow B e s (.slice av m cap) n (gcells (p::r)))(hn:n≠0):∃g,av=some ⟨g,0,none⟩∧w.cell? ⟨g,0,none⟩=some (.int .u8 p.fl.toNat)∧w.cell? ⟨g,1,none⟩=some (.int .u64 p.po)∧w.cell? ⟨g,2,none⟩=some (.int .u32 p.se)∧w.cell? ⟨g,3,none⟩=some (.int .u32 p.nu)∧w.cell? ⟨g,4,none⟩=some (.string p.la)∧w.cell? ⟨g,5,none⟩=some (.string p.bo):=by
 obtain⟨g,cap',hv,_,_,_,hc⟩:=jn7 h hn;simp only[Value.slice.injEq]at hv;obtain⟨rfl,_,_⟩:=hv;have hx:∀(j:Nat) (v:Value),(g1cells p)[j]?=some v→w.cell? ⟨g,j,none⟩=some v:=fun j v hj=>by
  have:=hc _ _ (qm3 (p::r) 0 p rfl j v hj);simpa using this
 exact⟨g,rfl,hx 0 _ rfl,hx 1 _ rfl,hx 2 _ rfl,hx 3 _ rfl,hx 4 _ rfl,hx 5 _ rfl⟩
theorem qq7{w:World}{B:Nat}{e:TypeId}{s n m:Nat}{av:Option Addr}{cap i:Nat}{cs:List Value}{x:Value}(h:w.ownsRow B e s (.slice av m cap) n cs)(hi:cs[i]?=some x):∃g o,av=some ⟨g,o,none⟩∧w.cell? ⟨g,o+i,none⟩=some x:=by
 obtain⟨a',c',h1,h2⟩:=jc2 h;simp only[Value.slice.injEq]at h1;obtain⟨rfl,_,_⟩:=h1;exact h2 i x hi
set_option maxRecDepth 100000 in
theorem vx4(s:ByteArray)(kd fb bu:Int)(g:Bool)(w:World)(hT:TW w)(hs:s.size≤1048576)(hb:(pagesM crcN s).2.1≠0):
 Calls Tryz.prog 14 #[.string s,.agg #[.int .i64 kd,.int .i64 fb,.bool g,.int .i64 bu]] w (OParsePost (noOS,(pagesM crcN s).2.1,(pagesM crcN s).2.2) w):=by
 have kpg:=fun w=>jf9 s w (by omega)
 generalize pagesM crcN s=D at *;have kb:=fun w=>jb8 D.2.1 D.2.2 w
 rw[show(!decide (D.2.1=0))=true by simpa using hb]at kb;obtain⟨W,hW,hWs,hbW,h0,h1,h2⟩:=jm1 w kd fb bu g;have KPO:Hid (∀(w1:World) (v1 v2:Value),Below W.heap.size W w1→w1.ownsRow W.heap.size 27 6 v1 D.1.1.length (gcells D.1.1)→w1.ownsRow W.heap.size 3 1 v2 D.1.1.length (ncells (plV D.1.2))→OP w kd fb bu g w1.heap.size v1 v2 D.1.1 D.1.2 D.2.1 D.2.2 (w1.alloc (.cells #[.int .i64 D.2.1,.int .i64 D.2.2] 54))):=Lib.hid fun w1 v1 v2 hb r1 r2=>qh8 hWs hbW h0 h1 h2 hb r1 r2
 unfold PagesPost at kpg;generalize D.2.1=c at *;generalize D.2.2=a at *;generalize D.1.1=l at *;generalize D.1.2=pl at *;clear hb;clear hWs hbW h0 h1 h2;have KPG:=Lib.hid kpg;have KB:=Lib.hid kb;clear kpg kb
 go_enter Tryz.func14,Tryz.ntmps14
 go_wp2_with fail
 rw[←hW];clear hW
 go_wp2_with (first
  | (go_at_call 36;(with_reducible refine(KPG.out _).mono ?_);rintro e1 w1 ⟨hb1,v1,v2,rfl,ho1,ho2⟩;have P:=KPO.out _ _ _ hb1 ho1 ho2;obtain⟨a1,c1,rfl⟩:=jb4 ho1;obtain⟨a2,c2,rfl⟩:=jb4 ho2;clear ho1 ho2 hb1;obtain⟨f0,f0',f1,f1'⟩:=P.fl)
  | (go_at_call 16;(with_reducible refine(KB.out _).mono ?_);rintro e2 w2 ⟨rfl,hb2⟩;replace P:=P.bel hb2;clear hb2 f0 f0' f1 f1';obtain⟨f0,f0',f1,f1'⟩:=P.fl;obtain⟨q0,q0'⟩:=P.res 0 _ rfl;obtain⟨q1,q1'⟩:=P.res 1 _ rfl;obtain⟨q2,q2'⟩:=P.res 2 _ rfl;obtain⟨q3,q3'⟩:=P.res 3 _ rfl;obtain⟨q4,q4'⟩:=P.res 4 _ rfl;obtain⟨q5,q5'⟩:=P.res 5 _ rfl;obtain⟨q6,q6'⟩:=P.res 6 _ rfl;obtain⟨q7,q7'⟩:=P.res 7 _ rfl;obtain⟨q8,q8'⟩:=P.res 8 _ rfl;obtain⟨q9,q9'⟩:=P.res 9 _ rfl;obtain⟨q10,q10'⟩:=P.res 10 _ rfl;obtain⟨q11,q11',q12,q12'⟩:=P.ret;(have n1:¬w1.heap.size=w.heap.size+1:=by have:=P.hF;omega);(have n2:¬w.heap.size+1=w1.heap.size:=by have:=P.hF;omega);(have n3:¬w1.heap.size=w.heap.size+1+1:=by have:=P.hF;omega);(have n4:¬w.heap.size+1+1=w1.heap.size:=by have:=P.hF;omega))
  | fail)
 go_region
 all_goals
  go_wp2_with fail
  refine bodyPost_ret (v:=.tuple #[.agg noSC,.agg #[.int .i64 c,.int .i64 a]]) (by simp[results,Tryz.results14,go_sem,q0,q0',q1,q1',q2,q2',q3,q3',q4,q4',q5,q5',q6,q6',q7,q7',q8,q8',q9,q9',q10,q10',q11,q11',q12,q12']) rfl ?_;refine OParsePost.drew ?_;refine jg4 ?_ c a
  first|exact P.gg|exact bdn P.gg _|exact P.gg.drew
set_option maxRecDepth 100000 in
theorem vx3(s:ByteArray)(kd fb bu:Int)(g:Bool)(w:World)(hT:TW w)(hs:s.size≤1048576)(hb:(pagesM crcN s).2.1=0)(hl:(pagesM crcN s).1.1 = []):
 Calls Tryz.prog 14 #[.string s,.agg #[.int .i64 kd,.int .i64 fb,.bool g,.int .i64 bu]] w (OParsePost (noOS,1,0) w):=by
 have kpg:=fun w=>jf9 s w (by omega)
 generalize pagesM crcN s=D at *;have kb:=fun w=>jb8 D.2.1 D.2.2 w
 rw[show(!decide (D.2.1=0))=false by simpa using hb]at kb;have ks:∀(v:Value) (w:World),Row w v 0 []→Calls Tryz.prog 37 #[v] w fun e w'=>e=.returned (.int .i64 (-1))∧Below w.heap.size w w':=fun v w h=>jg6 v [] 0 w h (by simp) (fun p hp=>by simp at hp)
 have km:=fun a w=>jh5 a w
 obtain⟨W,hW,hWs,hbW,h0,h1,h2⟩:=jm1 w kd fb bu g;have KPO:Hid (∀(w1:World) (v1 v2:Value),Below W.heap.size W w1→w1.ownsRow W.heap.size 27 6 v1 D.1.1.length (gcells D.1.1)→w1.ownsRow W.heap.size 3 1 v2 D.1.1.length (ncells (plV D.1.2))→OP w kd fb bu g w1.heap.size v1 v2 D.1.1 D.1.2 D.2.1 D.2.2 (w1.alloc (.cells #[.int .i64 D.2.1,.int .i64 D.2.2] 54))):=Lib.hid fun w1 v1 v2 hb r1 r2=>qh8 hWs hbW h0 h1 h2 hb r1 r2
 unfold PagesPost at kpg;rw[hl]at kpg KPO;generalize D.2.1=c at *;generalize D.2.2=a at *;generalize D.1.2=pl at *;clear hb hl;simp only[List.length_nil,show gcells [] = [] from rfl]at kpg KPO;clear hWs hbW h0 h1 h2;have KPG:=Lib.hid kpg;have KB:=Lib.hid kb;have KS:=Lib.hid ks;have KM:=Lib.hid km;clear kpg kb ks km
 go_enter Tryz.func14,Tryz.ntmps14
 go_wp2_with fail
 rw[←hW];clear hW
 go_wp2_with (first
  | (go_at_call 36;(with_reducible refine(KPG.out _).mono ?_);rintro e1 w1 ⟨hb1,v1,v2,rfl,ho1,ho2⟩;have P:=KPO.out _ _ _ hb1 ho1 ho2;obtain⟨a1,c1,rfl⟩:=jb4 ho1;obtain⟨a2,c2,rfl⟩:=jb4 ho2;clear ho1 ho2 hb1;obtain⟨f0,f0',f1,f1'⟩:=P.fl)
  | (go_at_call 16;(with_reducible refine(KB.out _).mono ?_);rintro e2 w2 ⟨rfl,hb2⟩;replace P:=P.bel hb2;clear hb2 f0 f0' f1 f1';obtain⟨f0,f0',f1,f1'⟩:=P.fl)
  | (go_at_call 37;(with_reducible refine(KS.out _ _ (jc2 P.r1)).mono ?_);rintro e3 w3 ⟨rfl,hb3⟩;replace P:=P.bel hb3;clear hb3)
  | (go_at_call 38;(with_reducible refine(KM.out _ _).mono ?_);rintro e9 w9 ⟨rfl,hb9⟩;replace P:=P.bel hb9;clear hb9;obtain⟨q0,q0'⟩:=P.res 0 _ rfl;obtain⟨q1,q1'⟩:=P.res 1 _ rfl;obtain⟨q2,q2'⟩:=P.res 2 _ rfl;obtain⟨q3,q3'⟩:=P.res 3 _ rfl;obtain⟨q4,q4'⟩:=P.res 4 _ rfl;obtain⟨q5,q5'⟩:=P.res 5 _ rfl;obtain⟨q6,q6'⟩:=P.res 6 _ rfl;obtain⟨q7,q7'⟩:=P.res 7 _ rfl;obtain⟨q8,q8'⟩:=P.res 8 _ rfl;obtain⟨q9,q9'⟩:=P.res 9 _ rfl;obtain⟨q10,q10'⟩:=P.res 10 _ rfl;obtain⟨q11,q11',q12,q12'⟩:=P.ret)
  | fail)
 refine bodyPost_ret (v:=.tuple #[.agg noSC,.agg #[.int .i64 1,.int .i64 0]]) (by simp[results,Tryz.results14,go_sem,q0,q0',q1,q1',q2,q2',q3,q3',q4,q4',q5,q5',q6,q6',q7,q7',q8,q8',q9,q9',q10,q10',q11,q11',q12,q12']) rfl ?_;refine jg4 ?_ 1 0
 first|exact P.gg|exact bdn P.gg _|exact P.gg.drew
set_option maxRecDepth 100000 in
theorem vx2(s:ByteArray)(kd fb bu:Int)(g:Bool)(w:World)(hT:TW w)(hs:s.size≤1048576)(hb:(pagesM crcN s).2.1=0)(p0:PG)(r:List PG)(hl:(pagesM crcN s).1.1=p0::r)(i:Nat)(hi:strayF p0.se (p0::r) 0=some i):
 Calls Tryz.prog 14 #[.string s,.agg #[.int .i64 kd,.int .i64 fb,.bool g,.int .i64 bu]] w (OParsePost (noOS,1,((pagesM crcN s).1.2.getD i 0:Nat)) w):=by
 have kpg:=fun w=>jf9 s w (by omega)
 have hgood:=jn5 s hb;generalize pagesM crcN s=D at *;have kb:=fun w=>jb8 D.2.1 D.2.2 w
 rw[show(!decide (D.2.1=0))=false by simpa using hb]at kb;obtain⟨hg,hsum,hpl,hn⟩:=hgood;rw[hl]at hg hsum hpl hn;have hsm:∀p∈p0::r,p.la.size≤1073741824∧p.bo.size≤1073741824:=fun p hp=>by
  have h1:=(hg p hp).1;have h2:=(hg p hp).2.1;have h3:=jf1 (bl p.la);rw[jb1]at h3;omega
 have km:=fun a w=>jh5 a w
 have ks:∀(v:Value) (w:World),Row w v (p0::r).length (gcells (p0::r))→Calls Tryz.prog 37 #[v] w fun e w'=>e=.returned (.int .i64 (optI (strayF p0.se (p0::r) 0)))∧Below w.heap.size w w':=fun v w h=>jg6 v (p0::r) p0.se w h (by omega) (fun p hp=>by simp at hp;rw[←hp])
 obtain⟨W,hW,hWs,hbW,h0,h1,h2⟩:=jm1 w kd fb bu g;have KPO:Hid (∀(w1:World) (v1 v2:Value),Below W.heap.size W w1→w1.ownsRow W.heap.size 27 6 v1 D.1.1.length (gcells D.1.1)→w1.ownsRow W.heap.size 3 1 v2 D.1.1.length (ncells (plV D.1.2))→OP w kd fb bu g w1.heap.size v1 v2 D.1.1 D.1.2 D.2.1 D.2.2 (w1.alloc (.cells #[.int .i64 D.2.1,.int .i64 D.2.2] 54))):=Lib.hid fun w1 v1 v2 hb r1 r2=>qh8 hWs hbW h0 h1 h2 hb r1 r2
 unfold PagesPost at kpg;rw[hl]at kpg KPO;rw[hi]at ks;unfold optI at ks;simp only at ks;generalize D.2.1=c at *;generalize D.2.2=a at *;generalize D.1.2=pl at *;have hin:=qx8 _ _ _ _ hi;rw[Nat.zero_add]at hin;have hat:=km0 pl i (by omega);generalize pl.getD i 0=A at *;clear hb hl hi hg hsum hpl hsm;obtain⟨n,hn'⟩:∃n,n=(p0::r).length:=⟨_,rfl⟩;rw[←hn']at kpg KPO hn hin;have m0:(0:Int)≤(i:Int):=by omega
 have m1:(i:Int)<(n:Int):=by omega
 clear hWs hbW h0 h1 h2;have KPG:=Lib.hid kpg;have KB:=Lib.hid kb;have KS:=Lib.hid ks;have KM:=Lib.hid km;have HAT:=Lib.hid hat;have HN:=Lib.hid hn';clear kpg kb ks km hat hn'
 go_enter Tryz.func14,Tryz.ntmps14
 go_wp2_with fail
 rw[←hW];clear hW
 go_wp2_with (first
  | (go_at_call 36;(with_reducible refine(KPG.out _).mono ?_);rintro e1 w1 ⟨hb1,v1,v2,rfl,ho1,ho2⟩;have P:=KPO.out _ _ _ hb1 ho1 ho2;obtain⟨a1,c1,rfl⟩:=jb4 ho1;obtain⟨a2,c2,rfl⟩:=jb4 ho2;clear ho1 ho2 hb1;obtain⟨f0,f0',f1,f1'⟩:=P.fl)
  | (go_at_call 16;(with_reducible refine(KB.out _).mono ?_);rintro e2 w2 ⟨rfl,hb2⟩;replace P:=P.bel hb2;clear hb2 f0 f0' f1 f1';obtain⟨f0,f0',f1,f1'⟩:=P.fl)
  | (go_at_call 37;(with_reducible refine(KS.out _ _ (jc2 P.r1)).mono ?_);rintro e3 w3 ⟨rfl,hb3⟩;replace P:=P.bel hb3;clear hb3;obtain⟨ga2,oa2,e2,ca⟩:=qq7 P.r2 HAT.out;subst e2)
  | (go_at_call 38;(with_reducible refine(KM.out _ _).mono ?_);rintro e9 w9 ⟨rfl,hb9⟩;replace P:=P.bel hb9;clear hb9;obtain⟨q0,q0'⟩:=P.res 0 _ rfl;obtain⟨q1,q1'⟩:=P.res 1 _ rfl;obtain⟨q2,q2'⟩:=P.res 2 _ rfl;obtain⟨q3,q3'⟩:=P.res 3 _ rfl;obtain⟨q4,q4'⟩:=P.res 4 _ rfl;obtain⟨q5,q5'⟩:=P.res 5 _ rfl;obtain⟨q6,q6'⟩:=P.res 6 _ rfl;obtain⟨q7,q7'⟩:=P.res 7 _ rfl;obtain⟨q8,q8'⟩:=P.res 8 _ rfl;obtain⟨q9,q9'⟩:=P.res 9 _ rfl;obtain⟨q10,q10'⟩:=P.res 10 _ rfl;obtain⟨q11,q11',q12,q12'⟩:=P.ret)
  | fail)
 refine bodyPost_ret (v:=.tuple #[.agg noSC,.agg #[.int .i64 1,.int .i64 A]]) (by simp[results,Tryz.results14,go_sem,q0,q0',q1,q1',q2,q2',q3,q3',q4,q4',q5,q5',q6,q6',q7,q7',q8,q8',q9,q9',q10,q10',q11,q11',q12,q12']) rfl ?_;refine jg4 ?_ 1 A
 first|exact P.gg|exact bdn P.gg _|exact P.gg.drew
set_option maxRecDepth 100000 in
theorem vx1(s:ByteArray)(kd fb bu:Int)(g:Bool)(w:World)(hT:TW w)(hs:s.size≤1048576)(hb:(pagesM crcN s).2.1=0)(p0:PG)(r:List PG)(hl:(pagesM crcN s).1.1=p0::r)(hi:strayF p0.se (p0::r) 0=none)(ho:opensG p0=false):
 Calls Tryz.prog 14 #[.string s,.agg #[.int .i64 kd,.int .i64 fb,.bool g,.int .i64 bu]] w (OParsePost (noOS,1,0) w):=by
 have kpg:=fun w=>jf9 s w (by omega)
 have hgood:=jn5 s hb;generalize pagesM crcN s=D at *;have kb:=fun w=>jb8 D.2.1 D.2.2 w
 rw[show(!decide (D.2.1=0))=false by simpa using hb]at kb;obtain⟨hg,hsum,hpl,hn⟩:=hgood;rw[hl]at hg hsum hpl hn;have hsm:∀p∈p0::r,p.la.size≤1073741824∧p.bo.size≤1073741824:=fun p hp=>by
  have h1:=(hg p hp).1;have h2:=(hg p hp).2.1;have h3:=jf1 (bl p.la);rw[jb1]at h3;omega
 have km:=fun a w=>jh5 a w
 have ks:∀(v:Value) (w:World),Row w v (p0::r).length (gcells (p0::r))→Calls Tryz.prog 37 #[v] w fun e w'=>e=.returned (.int .i64 (optI (strayF p0.se (p0::r) 0)))∧Below w.heap.size w w':=fun v w h=>jg6 v (p0::r) p0.se w h (by omega) (fun p hp=>by simp at hp;rw[←hp])
 have ko:∀w,Calls Tryz.prog 29 #[gV p0] w fun e w'=>e=.returned (.bool (opensG p0))∧Below w.heap.size w w':=fun w=>jf4 p0 w (hsm p0 (by simp)).1 (hsm p0 (by simp)).2
 unfold gV at ko;rw[ho]at ko;obtain⟨W,hW,hWs,hbW,h0,h1,h2⟩:=jm1 w kd fb bu g;have KPO:Hid (∀(w1:World) (v1 v2:Value),Below W.heap.size W w1→w1.ownsRow W.heap.size 27 6 v1 D.1.1.length (gcells D.1.1)→w1.ownsRow W.heap.size 3 1 v2 D.1.1.length (ncells (plV D.1.2))→OP w kd fb bu g w1.heap.size v1 v2 D.1.1 D.1.2 D.2.1 D.2.2 (w1.alloc (.cells #[.int .i64 D.2.1,.int .i64 D.2.2] 54))):=Lib.hid fun w1 v1 v2 hb r1 r2=>qh8 hWs hbW h0 h1 h2 hb r1 r2
 unfold PagesPost at kpg;rw[hl]at kpg KPO;rw[hi]at ks;unfold optI at ks;simp only at ks;generalize D.2.1=c at *;generalize D.2.2=a at *;generalize D.1.2=pl at *;obtain⟨n,hn'⟩:∃n,n=(p0::r).length:=⟨_,rfl⟩;have hn0:(p0::r).length≠0:=by rw[List.length_cons];omega
 have e1:((n:Int)==0)=false:=by rw[beq_eq_false_iff_ne];omega
 have e2:(n==0)=false:=by rw[beq_eq_false_iff_ne];omega
 have e3:¬(n:Int)=0:=by omega
 have e4:¬n=0:=by omega
 rw[←hn']at kpg KPO hn;have m1:(0:Int)<(n:Int):=by omega
 clear hb hl hi hg hsum hpl hsm ho;clear hWs hbW h0 h1 h2;have KPG:=Lib.hid kpg;have KB:=Lib.hid kb;have KS:=Lib.hid ks;have KM:=Lib.hid km;have HN:=Lib.hid hn';have KO:=Lib.hid ko;have HN0:=Lib.hid hn0;clear kpg kb ks km hn' ko hn0
 go_enter Tryz.func14,Tryz.ntmps14
 go_wp2_with fail
 rw[←hW];clear hW
 go_wp2_with (first
  | (go_at_call 36;(with_reducible refine(KPG.out _).mono ?_);rintro e1 w1 ⟨hb1,v1,v2,rfl,ho1,ho2⟩;have P:=KPO.out _ _ _ hb1 ho1 ho2;obtain⟨a1,c1,rfl⟩:=jb4 ho1;obtain⟨a2,c2,rfl⟩:=jb4 ho2;clear ho1 ho2 hb1;obtain⟨f0,f0',f1,f1'⟩:=P.fl)
  | (go_at_call 16;(with_reducible refine(KB.out _).mono ?_);rintro e2 w2 ⟨rfl,hb2⟩;replace P:=P.bel hb2;clear hb2 f0 f0' f1 f1';obtain⟨f0,f0',f1,f1'⟩:=P.fl)
  | (go_at_call 37;(with_reducible refine(KS.out _ _ (jc2 P.r1)).mono ?_);rintro e3 w3 ⟨rfl,hb3⟩;replace P:=P.bel hb3;clear hb3;obtain⟨g1,rfl,z0,z1,z2,z3,z4,z5⟩:=jk0 P.r1 HN0.out)
  | (go_at_call 29;(with_reducible refine(KO.out _).mono ?_);rintro e4 w4 ⟨rfl,hb4⟩;replace P:=P.bel hb4;clear hb4 z0 z1 z2 z3 z4 z5)
  | (go_at_call 38;(with_reducible refine(KM.out _ _).mono ?_);rintro e9 w9 ⟨rfl,hb9⟩;replace P:=P.bel hb9;clear hb9;obtain⟨q0,q0'⟩:=P.res 0 _ rfl;obtain⟨q1,q1'⟩:=P.res 1 _ rfl;obtain⟨q2,q2'⟩:=P.res 2 _ rfl;obtain⟨q3,q3'⟩:=P.res 3 _ rfl;obtain⟨q4,q4'⟩:=P.res 4 _ rfl;obtain⟨q5,q5'⟩:=P.res 5 _ rfl;obtain⟨q6,q6'⟩:=P.res 6 _ rfl;obtain⟨q7,q7'⟩:=P.res 7 _ rfl;obtain⟨q8,q8'⟩:=P.res 8 _ rfl;obtain⟨q9,q9'⟩:=P.res 9 _ rfl;obtain⟨q10,q10'⟩:=P.res 10 _ rfl;obtain⟨q11,q11',q12,q12'⟩:=P.ret)
  | fail)
 refine bodyPost_ret (v:=.tuple #[.agg noSC,.agg #[.int .i64 1,.int .i64 0]]) (by simp[results,Tryz.results14,go_sem,q0,q0',q1,q1',q2,q2',q3,q3',q4,q4',q5,q5',q6,q6',q7,q7',q8,q8',q9,q9',q10,q10',q11,q11',q12,q12']) rfl ?_;refine jg4 ?_ 1 0
 first|exact P.gg|exact bdn P.gg _|exact P.gg.drew
set_option maxRecDepth 100000 in
theorem vx0(s:ByteArray)(kd fb bu:Int)(g:Bool)(w:World)(hT:TW w)(hs:s.size≤1048576)(hb:(pagesM crcN s).2.1=0)(p0:PG)(r:List PG)(hl:(pagesM crcN s).1.1=p0::r)(hi:strayF p0.se (p0::r) 0=none)(ho:opensG p0=true)(A:Nat)(hp:pairM s.size r (pagesM crcN s).1.2=.inr A):
 Calls Tryz.prog 14 #[.string s,.agg #[.int .i64 kd,.int .i64 fb,.bool g,.int .i64 bu]] w (OParsePost (noOS,1,(A:Int)) w):=by
 have kpg:=fun w=>jf9 s w (by omega)
 have hgood:=jn5 s hb;generalize pagesM crcN s=D at *;have kb:=fun w=>jb8 D.2.1 D.2.2 w
 rw[show(!decide (D.2.1=0))=false by simpa using hb]at kb;obtain⟨hg,hsum,hpl,hn⟩:=hgood;rw[hl]at hg hsum hpl hn;have hsm:∀p∈p0::r,p.la.size≤1073741824∧p.bo.size≤1073741824:=fun p hp=>by
  have h1:=(hg p hp).1;have h2:=(hg p hp).2.1;have h3:=jf1 (bl p.la);rw[jb1]at h3;omega
 have km:=fun a w=>jh5 a w
 have ks:∀(v:Value) (w:World),Row w v (p0::r).length (gcells (p0::r))→Calls Tryz.prog 37 #[v] w fun e w'=>e=.returned (.int .i64 (optI (strayF p0.se (p0::r) 0)))∧Below w.heap.size w w':=fun v w h=>jg6 v (p0::r) p0.se w h (by omega) (fun p hp=>by simp at hp;rw[←hp])
 have ko:∀w,Calls Tryz.prog 29 #[gV p0] w fun e w'=>e=.returned (.bool (opensG p0))∧Below w.heap.size w w':=fun w=>jf4 p0 w (hsm p0 (by simp)).1 (hsm p0 (by simp)).2
 unfold gV at ko;rw[ho]at ko;have kpr:∀(v u:Value) (w':World),w'.ownsRow (w.heap.size+3) 27 6 v (p0::r).length (gcells (p0::r))→w'.ownsRow (w.heap.size+3) 3 1 u (p0::r).length (ncells (plV D.1.2))→Calls Tryz.prog 39 #[.string s,v,u] w' (PairPost (pairM s.size r D.1.2) w'):=fun v u w' h1 h2=>by
  have h3:=jc2 h2;rw[←hpl]at h3;exact kg6 s (w.heap.size+3) v u p0 r D.1.2 w' h1 h3 (by rw[hpl,List.length_cons]) (by rw[List.length_cons]at hn;omega) (by omega) hsm
 rw[hp]at kpr;unfold PairPost at kpr;simp only at kpr;obtain⟨W,hW,hWs,hbW,h0,h1,h2⟩:=jm1 w kd fb bu g;have KPO:Hid (∀(w1:World) (v1 v2:Value),Below W.heap.size W w1→w1.ownsRow W.heap.size 27 6 v1 D.1.1.length (gcells D.1.1)→w1.ownsRow W.heap.size 3 1 v2 D.1.1.length (ncells (plV D.1.2))→OP w kd fb bu g w1.heap.size v1 v2 D.1.1 D.1.2 D.2.1 D.2.2 (w1.alloc (.cells #[.int .i64 D.2.1,.int .i64 D.2.2] 54))):=Lib.hid fun w1 v1 v2 hb r1 r2=>qh8 hWs hbW h0 h1 h2 hb r1 r2
 unfold PagesPost at kpg;rw[hl]at kpg KPO;rw[hi]at ks;unfold optI at ks;simp only at ks;generalize D.2.1=c at *;generalize D.2.2=a at *;generalize D.1.2=pl at *;obtain⟨n,hn'⟩:∃n,n=(p0::r).length:=⟨_,rfl⟩;have hn0:(p0::r).length≠0:=by rw[List.length_cons];omega
 have e1:((n:Int)==0)=false:=by rw[beq_eq_false_iff_ne];omega
 have e2:(n==0)=false:=by rw[beq_eq_false_iff_ne];omega
 have e3:¬(n:Int)=0:=by omega
 have e4:¬n=0:=by omega
 rw[←hn']at kpg KPO hn;have m1:(0:Int)<(n:Int):=by omega
 have kb2:=fun w=>jb8 1 (A:Int) w
 rw[show(!decide ((1:Int)=0))=true from rfl]at kb2;clear hb hl hi hg hsum hpl hsm ho hp;clear hWs hbW h0 h1 h2;have KPG:=Lib.hid kpg;have KB:=Lib.hid kb;have KS:=Lib.hid ks;have KM:=Lib.hid km;have HN:=Lib.hid hn';have KO:=Lib.hid ko;have HN0:=Lib.hid hn0;have KPR:=Lib.hid kpr;have KB2:=Lib.hid kb2;clear kpg kb ks km hn' ko hn0 kpr kb2
 go_enter Tryz.func14,Tryz.ntmps14
 go_wp2_with fail
 rw[←hW];clear hW
 go_wp2_with (first
  | (go_at_call 36;(with_reducible refine(KPG.out _).mono ?_);rintro e1 w1 ⟨hb1,v1,v2,rfl,ho1,ho2⟩;have P:=KPO.out _ _ _ hb1 ho1 ho2;obtain⟨a1,c1,rfl⟩:=jb4 ho1;obtain⟨a2,c2,rfl⟩:=jb4 ho2;clear ho1 ho2 hb1;obtain⟨f0,f0',f1,f1'⟩:=P.fl)
  | (go_at_call 16;(with_reducible refine(KB.out _).mono ?_);rintro e2 w2 ⟨rfl,hb2⟩;replace P:=P.bel hb2;clear hb2 f0 f0' f1 f1';obtain⟨f0,f0',f1,f1'⟩:=P.fl)
  | (go_at_call 37;(with_reducible refine(KS.out _ _ (jc2 P.r1)).mono ?_);rintro e3 w3 ⟨rfl,hb3⟩;replace P:=P.bel hb3;clear hb3;obtain⟨g1,rfl,z0,z1,z2,z3,z4,z5⟩:=jk0 P.r1 HN0.out)
  | (go_at_call 29;(with_reducible refine(KO.out _).mono ?_);rintro e4 w4 ⟨rfl,hb4⟩;replace P:=P.bel hb4;clear hb4 z0 z1 z2 z3 z4 z5)
  | (go_at_call 39;(with_reducible refine(KPR.out _ _ _ P.r1 P.r2).mono ?_);rintro e5 w5 ⟨hb5,rfl⟩;replace P:=P.bel hb5;clear hb5 f0 f0' f1 f1';obtain⟨f0,f0',f1,f1'⟩:=P.fl;have PF:=P.fault 1 (A:Int))
  | (go_at_call 16;(with_reducible refine(KB2.out _).mono ?_);rintro e6 w6 ⟨rfl,hb6⟩;replace P:=PF.bel hb6;clear hb6 PF f0 f0' f1 f1';obtain⟨f0,f0',f1,f1'⟩:=P.fl;obtain⟨q0,q0'⟩:=P.res 0 _ rfl;obtain⟨q1,q1'⟩:=P.res 1 _ rfl;obtain⟨q2,q2'⟩:=P.res 2 _ rfl;obtain⟨q3,q3'⟩:=P.res 3 _ rfl;obtain⟨q4,q4'⟩:=P.res 4 _ rfl;obtain⟨q5,q5'⟩:=P.res 5 _ rfl;obtain⟨q6,q6'⟩:=P.res 6 _ rfl;obtain⟨q7,q7'⟩:=P.res 7 _ rfl;obtain⟨q8,q8'⟩:=P.res 8 _ rfl;obtain⟨q9,q9'⟩:=P.res 9 _ rfl;obtain⟨q10,q10'⟩:=P.res 10 _ rfl;obtain⟨q11,q11',q12,q12'⟩:=P.ret;(have n1:¬w1.heap.size=w.heap.size+1:=by have:=P.hF;omega);(have n2:¬w.heap.size+1=w1.heap.size:=by have:=P.hF;omega);(have n3:¬w1.heap.size=w.heap.size+1+1:=by have:=P.hF;omega);(have n4:¬w.heap.size+1+1=w1.heap.size:=by have:=P.hF;omega))
  | fail)
 go_region
 all_goals
  go_wp2_with fail
  refine bodyPost_ret (v:=.tuple #[.agg noSC,.agg #[.int .i64 1,.int .i64 (A:Int)]]) (by simp[results,Tryz.results14,go_sem,q0,q0',q1,q1',q2,q2',q3,q3',q4,q4',q5,q5',q6,q6',q7,q7',q8,q8',q9,q9',q10,q10',q11,q11',q12,q12']) rfl ?_;refine OParsePost.drew ?_;refine jg4 ?_ 1 (A:Int)
  first|exact P.gg|exact bdn P.gg _|exact P.gg.drew
end Go.Proofs.YtagjkmkmphamoaaGreatDoor
