/- Qs -/
import Derived.Test.YtagjkmkmphamoaaGreatDoorPQr
import Derived.Test.YtagjkmkmphamoaaGreatDoorPQg
set_option linter.all false
set_option maxHeartbeats 16000000
namespace Go.Proofs.YtagjkmkmphamoaaGreatDoor
open Go.RowKit
def OPagesPost(l:List PG)(f:Int×Int)(w:World)(e:Ending)(w':World):Prop:=
 Below w.heap.size w w'∧∃v,e=.returned (.tuple #[v,.agg #[.int .i64 f.1,.int .i64 f.2]])∧w'.ownsRow w.heap.size 27 6 v l.length (gcells l)
theorem jm3{X:World}{a n s:Nat}{cs:Array Value}{e:TypeId}(h:X.heap[a]?=some (.cells cs e (0,0)))(hs:cs.size=n*s)(hn:n≤1000):X.ownsRow a e s (.slice (some ⟨a,0,none⟩) n n) n cs.toList:=
 ⟨by simpa using hs,.inr ⟨a,n,cs,rfl,Nat.le_refl _,h,Nat.le_refl _,by unfold maxLen;omega,hs,by rw[List.take_of_length_le (by simp[hs])]⟩⟩
def bigO(s:OS):Prop:=(printL true s.b).length≤8000000∧s.setup.size≤8000000∧s.b.ns.length≤1000000
section
variable {P:Program} {ops:Array Oper} {o:Oper} {a:Act} {Q:Exit→Act→World→Prop} {K:Act→World→Prop} {E:Prop}
theorem js7(hgd:o.guard=none)(s x:Operand)(t e:TypeId)(ho:o.op=.call { callee:=.builtin .append,args:=#[s,x],argTypes:=#[t,t] })(ht:P.underlying t=some (.slice e))
 (z:Value) (size bytes:Nat) (hi:(P.info? e).map (fun i=>(i.zero,i.size,i.bytes))=some (some z,size,bytes)) (hzs:z.cells.size=size) (hsz:0<size)
 (W:World) (B:Nat) (v:Value) (n:Nat) (cs:List Value) (hs:a.eval s=v) (hown:W.ownsRow B e size v n cs) (src:Addr) (m mc:Nat) (news:List Value) (hx:a.eval x=.slice (some src) m mc) (hnl:news.length=m*size)
 (hnw:∀j u,news[j]?=some u→W.cell? (src.add j)=some u) (h1:∀u∈news,u.oneCell'=true) (hlen:n+m≤70368744177664) (hby:(n+m)*bytes≤140737488355328) (hB:B≤W.heap.size)
 (h:∀v' w',w'.ownsRow B e size v' (n+m) (cs++news)→Below B W w'→K (a.put o.dst v') w'):
 if Region.wanted o (yielded ops a.tmps)=true then Oper.wp P o a W K Q else E:=by
 have hw:Region.wanted o (yielded ops a.tmps)=true:=by simp[Region.wanted,hgd]
 rw[if_pos hw];obtain⟨i0,hi,hz0,hz1,hz2⟩:=info_parts hi;obtain⟨v',w',hrun,r1,r2,_⟩:=run_append_own (P:=P) W B t o.type e i0 z size bytes ht hi hz0 hz1 hz2 hzs hsz v n cs hown src m mc news hnl hnw h1 (by unfold maxLen;omega) hby hB;unfold Oper.wp;simp[execOp,ho,resolve,invoke,builtin,hs,hx,hrun,Result.andThen];exact h v' w' r1 (jn8 hown r2 hB)
end
theorem jz8:∀(l:List PG) (n:Nat) (p:PG),renumL n (l ++ [p])=renumL n l ++ [{ p with nu:=(n+l.length)%4294967296 }]
 | [],n,p=>rfl
 | q::r,n,p=>by
  rw[List.cons_append,renumL,renumL,jz8 r (n+1) p,List.cons_append,List.length_cons,show n+1+r.length=n+(r.length+1) by omega]
theorem CS.at{w wr w':World}{cs:Array Value}{B:Nat}(h:CS w cs wr)(hb:Below B wr w')(hB:w.heap.size+2≤B):CS w cs w':=
 ⟨h.gg.trans (hb.mono (by omega)),(hb.block _ (by omega)).trans h.bx,(hb.block _ (by omega)).trans h.rt⟩
theorem kt3(s:OS):0<(midO s).length:=by
 have h:=vb3 s;have hl:0<(lacesO s).length:=List.length_pos_iff.2 h;unfold midO;obtain⟨f,hf⟩:∃f,(lacesO s).length=f+1:=⟨(lacesO s).length-1,by omega⟩;rw[hf,pagesO,if_neg h];simp
def pkA(s:OS):ByteArray:=toB (vorb 3++printL true s.b)
theorem vv7(s:OS):pagesO s.first.se (lacesB [pkA s,s.setup]).length 1 (lacesB [pkA s,s.setup]) ([pkA s,s.setup].map bl).flatten false=midO s:=by
 have h1:lacesB [pkA s,s.setup]=lacesO s:=by
  unfold lacesB lacesO pktsO pkA;simp only[List.flatMap_cons,List.flatMap_nil,szB,jb1]
 have h2:([pkA s,s.setup].map bl).flatten=(pktsO s).flatten:=by
  unfold pktsO pkA;simp only[List.map_cons,List.map_nil,jf5]
 unfold midO;rw[h1,h2]
set_option maxRecDepth 100000 in
theorem kt8(vn vs:Value)(s:OS)(w:World)(hT:TW w)(hrow:OsRow w vn vs s)(hok:smOS s)(hb:(ocheckM s).1≠0):
 Calls Tryz.prog 9 #[.agg #[.int .u8 s.first.fl.toNat,.int .u64 s.first.po,.int .u32 s.first.se,.int .u32 s.first.nu,.string s.first.la,.string s.first.bo,.string s.b.vt,.int .i64 s.b.vs,vn,.string s.setup,vs]] w (OPagesPost [] (ocheckM s) w):=by
 obtain⟨W,hW,C⟩:=jj3 w (osC vn vs s);have kc:∀w',Below w.heap.size w w'→Calls Tryz.prog 11 #[osV vn vs s] w' (CheckPost (ocheckM s) w'):=fun w' hb=>jt3 vn vs s w' (hT.bel hb) (hrow.keep hb) hok
 unfold osV at kc;have kb:=fun w=>jb8 (ocheckM s).1 (ocheckM s).2 w
 rw[show(!decide ((ocheckM s).1=0))=true by simpa using hb]at kb;generalize ocheckM s=CC at *;obtain⟨cc,ca⟩:=CC;unfold CheckPost at kc;simp only at kc kb ⊢;clear hrow hok hb hT;have KC:=Lib.hid kc;have KB:=Lib.hid kb;clear kc kb;obtain⟨x0,x1,x2,x3,x4,x5,x6,x7,x8,x9,x10⟩:_∧_∧_∧_∧_∧_∧_∧_∧_∧_∧_:=⟨C.cell 0 _ rfl,C.cell 1 _ rfl,C.cell 2 _ rfl,C.cell 3 _ rfl,C.cell 4 _ rfl,C.cell 5 _ rfl,C.cell 6 _ rfl,C.cell 7 _ rfl,C.cell 8 _ rfl,C.cell 9 _ rfl,C.cell 10 _ rfl⟩;obtain⟨q0,q0',q1,q1'⟩:=C.ret
 go_enter Tryz.func9,Tryz.ntmps9
 go_wp2_with fail
 rw[←hW];clear hW
 go_wp2_with (first
  | (go_at_call 11;(with_reducible refine(KC.out _ C.gg).mono ?_);rintro e1 w1 ⟨rfl,hb1⟩;have hz1:=hb1.size;replace C:=(C.bel hb1).bel (bal (Below.refl _ _) (.cells #[.int .i64 cc,.int .i64 ca] 54));obtain⟨j0,j0'⟩:=Live.fresh w1 #[.int .i64 cc,.int .i64 ca] 54 0 _ rfl;obtain⟨j1,j1'⟩:=Live.fresh w1 #[.int .i64 cc,.int .i64 ca] 54 1 _ rfl;clear q0 q0' q1 q1' x0 x1 x2 x3 x4 x5 x6 x7 x8 x9 x10)
  | (go_at_call 16;(with_reducible refine(KB.out _).mono ?_);rintro e2 w2 ⟨rfl,hb2⟩;replace C:=C.bel hb2;replace j0:=kc hb2 j0;replace j1:=kc hb2 j1;clear j0' j1';clear hb2;obtain⟨x0,x1,x2,x3,x4,x5,x6,x7,x8,x9,x10⟩:_∧_∧_∧_∧_∧_∧_∧_∧_∧_∧_:=⟨C.cell 0 _ rfl,C.cell 1 _ rfl,C.cell 2 _ rfl,C.cell 3 _ rfl,C.cell 4 _ rfl,C.cell 5 _ rfl,C.cell 6 _ rfl,C.cell 7 _ rfl,C.cell 8 _ rfl,C.cell 9 _ rfl,C.cell 10 _ rfl⟩;obtain⟨q0,q0',q1,q1'⟩:=C.ret)
  | fail)
 go_region
 all_goals
  go_wp2_with fail
  refine bodyPost_ret (v:=.tuple #[.slice none 0 0,.agg #[.int .i64 cc,.int .i64 ca]]) (by simp[results,Tryz.results9,go_sem,q0,q0',q1,q1']) rfl ?_;refine⟨?_,_,rfl,World.ownsRow_nil _ _ _ _⟩
  first
   | exact(C.gg.setCell (by simp) _).setCell (by simp) _
   | exact(((C.gg.setCell (by simp) _).setCell (by simp) _)).drew
   | exact(C.gg.drew.setCell (by simp) _).setCell (by simp) _
set_option maxRecDepth 100000 in
theorem js1(vn vs:Value)(s:OS)(w:World)(hT:TW w)(hrow:OsRow w vn vs s)(hok:smOS s)(ho:okO s)(hbig:bigO s):
 Calls Tryz.prog 9 #[.agg #[.int .u8 s.first.fl.toNat,.int .u64 s.first.po,.int .u32 s.first.se,.int .u32 s.first.nu,.string s.first.la,.string s.first.bo,.string s.b.vt,.int .i64 s.b.vs,vn,.string s.setup,vs]] w (OPagesPost (opagesL s) (0,0) w):=by
 obtain⟨av,cap,hvs,hcv⟩:=hrow.2;obtain⟨n,hn'⟩:∃n,n=s.sound.length:=⟨_,rfl⟩;rw[←hn']at hvs;have HN:=Lib.hid hn';have HCV:=Lib.hid hcv;clear hn' hcv;subst hvs;obtain⟨W,hW,C⟩:=jj3 w (osC vn (.slice av n cap) s);have kc:∀w',Below w.heap.size w w'→Calls Tryz.prog 11 #[osV vn (.slice av n cap) s] w' (CheckPost (ocheckM s) w'):=fun w' hb=>jt3 vn (.slice av n cap) s w' (hT.bel hb) (hrow.keep hb) hok
 unfold osV at kc;obtain⟨og,oc,_,_,_,ol⟩:=ho;obtain⟨p1,p2,p3,p4,p5⟩:=jh4 oc;rw[oc]at kc;unfold CheckPost at kc;have kb:=fun w=>jb8 0 0 w
 rw[show(!decide ((0:Int)=0))=false from rfl]at kb;have kp:∀w',Below w.heap.size w w'→Calls Tryz.prog 27 #[.agg #[.string s.b.vt,.int .i64 s.b.vs,vn],.bool true] w' fun e w''=>e=.returned (.tuple #[.string (toB (printL true s.b)),.agg #[.int .i64 0,.int .i64 0]])∧Below w'.heap.size w' w'':=fun w' hb=>by
  have:=kp1 vn s.b true w' (hT.bel hb) (hrow.1.keep hb) hok.1 p3 (by have:=hbig.1;omega) hbig.2.2;unfold PrintPost at this;rw[if_pos p3,vm7 p3]at this;exact this
 have hle:(toB (printL true s.b)).size≤8000000:=by rw[szB];exact hbig.1
 generalize hPL:toB (printL true s.b)=PL at *;have kj:∀(X:World) (a:Nat),X.heap[a]?=some (.cells #[.string ⟨#[3,118,111,114,98,105,115]⟩,.string PL] 9 (0,0))→Calls Tryz.prog 26 #[.slice (some ⟨a,0,none⟩) 2 2] X fun e w''=>e=.returned (.string (pkA s))∧Below X.heap.size X w'':=fun X a h=>by
  have h1:=jm3 (n:=2) (s:=1) h rfl (by decide);have:=jh3 a _ [⟨#[3,118,111,114,98,105,115]⟩,PL] X h1 (by simp) (by show 2≤_;decide) (by
   simp only[List.map_cons,List.map_nil,List.flatten_cons,List.flatten_nil,List.append_nil,List.length_append,jb1];have:(⟨#[3,118,111,114,98,105,115]⟩:ByteArray).size=7:=rfl;omega)
  have hx:(⟨(([⟨#[3,118,111,114,98,105,115]⟩,PL].map bl).flatten).toArray⟩:ByteArray)=pkA s:=by
   rw[←hPL];unfold pkA;simp only[List.map_cons,List.map_nil,List.flatten_cons,List.flatten_nil,List.append_nil,jf5]
   rfl
  rw[hx]at this;exact this
 have kpp:∀(X:World) (a:Nat),X.heap[a]?=some (.cells #[.string (pkA s),.string s.setup] 9 (0,0))→Calls Tryz.prog 28 #[.agg #[.int .u8 0,.int .u64 0,.int .u32 s.first.se,.int .u32 1],.slice (some ⟨a,0,none⟩) 2 2] X (PPost (midO s) X):=fun X a h=>by
  have h1:=jm3 (n:=2) (s:=1) h rfl (by decide);have hpk:(pkA s).size≤8000007:=by
   unfold pkA;rw[szB,List.length_append,kf5];have:=hbig.1;omega
  have:=ks6 s.first.se 1 [pkA s,s.setup] a _ X h1 (by simp) (by show 2≤_;decide) (fun t ht=>by
   simp only[List.mem_cons,List.not_mem_nil,or_false]at ht;rcases ht with rfl|rfl
   · omega
   · have:=hbig.2.1;omega) og.1.2.2.2.1 (by decide)
  rw[vv7]at this;exact this
 clear p1 p2 p3 p4 p5 oc;have KC:=Lib.hid kc;have KB:=Lib.hid kb;have KP:=Lib.hid kp;have KJ:=Lib.hid kj;have KPP:=Lib.hid kpp;clear kc kb kp kj kpp;obtain⟨x0,x1,x2,x3,x4,x5,x6,x7,x8,x9,x10⟩:_∧_∧_∧_∧_∧_∧_∧_∧_∧_∧_:=⟨C.cell 0 _ rfl,C.cell 1 _ rfl,C.cell 2 _ rfl,C.cell 3 _ rfl,C.cell 4 _ rfl,C.cell 5 _ rfl,C.cell 6 _ rfl,C.cell 7 _ rfl,C.cell 8 _ rfl,C.cell 9 _ rfl,C.cell 10 _ rfl⟩;obtain⟨q0,q0',q1,q1'⟩:=C.ret
 go_enter Tryz.func9,Tryz.ntmps9
 go_wp2_with fail
 rw[←hW];clear hW
 go_wp2_with (first
  | (go_at_call 11;(with_reducible refine(KC.out _ C.gg).mono ?_);rintro e1 w1 ⟨rfl,hb1⟩;have hz1:=hb1.size;replace C:=(C.bel hb1).bel (bal (Below.refl _ _) (.cells #[.int .i64 0,.int .i64 0] 54));obtain⟨j0,j0'⟩:=Live.fresh w1 #[.int .i64 0,.int .i64 0] 54 0 _ rfl;obtain⟨j1,j1'⟩:=Live.fresh w1 #[.int .i64 0,.int .i64 0] 54 1 _ rfl;clear q0 q0' q1 q1' x0 x1 x2 x3 x4 x5 x6 x7 x8 x9 x10)
  | (go_at_call 16;(with_reducible refine(KB.out _).mono ?_);rintro e2 w2 ⟨rfl,hb2⟩;replace C:=C.bel hb2;clear j0 j0' j1 j1';clear hb2;obtain⟨x0,x1,x2,x3,x4,x5,x6,x7,x8,x9,x10⟩:_∧_∧_∧_∧_∧_∧_∧_∧_∧_∧_:=⟨C.cell 0 _ rfl,C.cell 1 _ rfl,C.cell 2 _ rfl,C.cell 3 _ rfl,C.cell 4 _ rfl,C.cell 5 _ rfl,C.cell 6 _ rfl,C.cell 7 _ rfl,C.cell 8 _ rfl,C.cell 9 _ rfl,C.cell 10 _ rfl⟩;obtain⟨q0,q0',q1,q1'⟩:=C.ret)
  | (go_at_call 27;(with_reducible refine(KP.out _ C.gg).mono ?_);rintro e3 w3 ⟨rfl,hb3⟩;have hz3:=hb3.size;replace C:=(C.bel hb3).bel (bal (Below.refl _ _) (.cells #[.int .i64 0,.int .i64 0] 54));obtain⟨j0,j0'⟩:=Live.fresh w3 #[.int .i64 0,.int .i64 0] 54 0 _ rfl;obtain⟨j1,j1'⟩:=Live.fresh w3 #[.int .i64 0,.int .i64 0] 54 1 _ rfl;clear hb3 q0 q0' q1 q1' x0 x1 x2 x3 x4 x5 x6 x7 x8 x9 x10)
  | fail)
 obtain⟨W8,hW8⟩:∃W8,W8=w2.alloc (.cells #[.int .u8 0,.int .u64 0,.int .u32 s.first.se,.int .u32 1] 25):=⟨_,rfl⟩;have C8:=C.bel (bal (Below.refl w2.heap.size w2) (.cells #[.int .u8 0,.int .u64 0,.int .u32 s.first.se,.int .u32 1] 25));rw[←hW8]at C8 ⊢;have hh:W8.heap[w2.heap.size]?=some (.cells #[.int .u8 0,.int .u64 0,.int .u32 s.first.se,.int .u32 1] 25 (0,0)):=by rw[hW8];exact heap_alloc_new _ _
 have KSA:Hid (∀wz,Below W8.heap.size W8 wz→wz.cell? ⟨w.heap.size,0,none⟩=some (.int .u8 s.first.fl.toNat)∧wz.cell? ⟨w.heap.size,1,none⟩=some (.int .u64 s.first.po)∧wz.cell? ⟨w.heap.size,2,none⟩=some (.int .u32 s.first.se)∧wz.cell? ⟨w.heap.size,3,none⟩=some (.int .u32 s.first.nu)∧wz.cell? ⟨w.heap.size,4,none⟩=some (.string s.first.la)∧wz.cell? ⟨w.heap.size,5,none⟩=some (.string s.first.bo)∧wz.cell? ⟨w.heap.size,9,none⟩=some (.string s.setup)∧wz.cell? ⟨w2.heap.size,0,none⟩=some (.int .u8 0)∧wz.cell? ⟨w2.heap.size,1,none⟩=some (.int .u64 0)∧wz.cell? ⟨w2.heap.size,2,none⟩=some (.int .u32 s.first.se)∧wz.cell? ⟨w2.heap.size,3,none⟩=some (.int .u32 1)):=Lib.hid fun wz hb=>⟨(C8.bel hb).cell 0 _ rfl,(C8.bel hb).cell 1 _ rfl,(C8.bel hb).cell 2 _ rfl,(C8.bel hb).cell 3 _ rfl,(C8.bel hb).cell 4 _ rfl,(C8.bel hb).cell 5 _ rfl,(C8.bel hb).cell 9 _ rfl,kc hb (jb0 hh 0 _ rfl).1,kc hb (jb0 hh 1 _ rfl).1,kc hb (jb0 hh 2 _ rfl).1,kc hb (jb0 hh 3 _ rfl).1⟩
 have HC8:=Lib.hid C8;clear hW8 hh C C8 x0 x1 x2 x3 x4 x5 x6 x7 x8 x9 x10 q0 q0' q1 q1';have hml:(midO s).length≠0:=by
  have:=(kt3 s);omega
 have hlo:(midO s).length≤1048576:=by
  unfold opagesL at ol;simp only[List.cons_append,List.length_cons,List.length_append]at ol;omega
 have HML:=Lib.hid hml;have HMA:Hid (1+(midO s).length≤70368744177664):=Lib.hid (by omega);have HMB:Hid ((1+(midO s).length)*56≤140737488355328):=Lib.hid (by omega);have HGC:Hid (#[.int .u8 s.first.fl.toNat,.int .u64 s.first.po,.int .u32 s.first.se,.int .u32 s.first.nu,.string s.first.la,.string s.first.bo].toList++gcells (midO s)=gcells (s.first::midO s)):=Lib.hid rfl;have HOL:=Lib.hid ol;clear hml hlo ol
 go_cut [8] from 32 (fun v8 wx=>∃(u8:Value),v8=u8∧Below W8.heap.size W8 wx∧wx.ownsRow W8.heap.size 27 6 u8 (1+(midO s).length) (gcells (s.first::midO s)))
 case first=>
  refine wp_region_held_drew (S:=fun w'=>w'.cell? ⟨w.heap.size,0,none⟩=some (.int .u8 s.first.fl.toNat)∧w'.cell? ⟨w.heap.size,1,none⟩=some (.int .u64 s.first.po)∧w'.cell? ⟨w.heap.size,2,none⟩=some (.int .u32 s.first.se)∧w'.cell? ⟨w.heap.size,3,none⟩=some (.int .u32 s.first.nu)∧w'.cell? ⟨w.heap.size,4,none⟩=some (.string s.first.la)∧w'.cell? ⟨w.heap.size,5,none⟩=some (.string s.first.bo)∧w'.cell? ⟨w.heap.size,9,none⟩=some (.string s.setup)∧w'.cell? ⟨w2.heap.size,0,none⟩=some (.int .u8 0)∧w'.cell? ⟨w2.heap.size,1,none⟩=some (.int .u64 0)∧w'.cell? ⟨w2.heap.size,2,none⟩=some (.int .u32 s.first.se)∧w'.cell? ⟨w2.heap.size,3,none⟩=some (.int .u32 1)) (by kernel_rfl) (KSA.out _ (Below.refl _ _).drew) (fun hHeld=>?_);have hbk:Below W8.heap.size W8 W8.drew:=(Below.refl _ _).drew;generalize W8.drew=Wd at *
  (try simp only[Act.put,List.getElem_toArray,List.getElem_cons_zero,List.getElem_cons_succ,List.setIfInBounds_toArray,List.set_cons_zero,List.set_cons_succ])
  refine wpAnyH_take (i:=0) (v:=?_) rfl (by kernel_rfl) (by kernel_rfl) (by kernel_rfl) (fun _ _ _ h=>h) (Or.inl ⟨by rfl,?_⟩) (by assumption) ?_
  rotate_left 1
  · (intro w hSw;(try dsimp only at hSw);go_simp;(try with_reducible rfl))
  (try simp only[Act.put,List.getElem_toArray,List.getElem_cons_zero,List.getElem_cons_succ,List.setIfInBounds_toArray,List.set_cons_zero,List.set_cons_succ])
  refine wpAnyH_take (i:=1) (v:=?_) rfl (by kernel_rfl) (by kernel_rfl) (by kernel_rfl) (fun _ _ _ h=>h) (Or.inl ⟨by rfl,?_⟩) (by assumption) ?_
  rotate_left 1
  · (intro w hSw;(try dsimp only at hSw);go_simp;(try with_reducible rfl))
  (try simp only[Act.put,List.getElem_toArray,List.getElem_cons_zero,List.getElem_cons_succ,List.setIfInBounds_toArray,List.set_cons_zero,List.set_cons_succ])
  refine wpAnyH_take (i:=3) (v:=?_) rfl (by kernel_rfl) (by kernel_rfl) (by kernel_rfl) (fun _ _ _ h=>h) (Or.inl ⟨by rfl,?_⟩) (by assumption) ?_
  rotate_left 1
  · (intro w hSw;(try dsimp only at hSw);go_simp;(try with_reducible rfl))
  (try simp only[Act.put,List.getElem_toArray,List.getElem_cons_zero,List.getElem_cons_succ,List.setIfInBounds_toArray,List.set_cons_zero,List.set_cons_succ])
  refine wpAnyH_take (i:=4) (v:=?_) rfl (by kernel_rfl) (by kernel_rfl) (by kernel_rfl) (fun _ _ _ h=>h) (Or.inl ⟨by rfl,?_⟩) (by assumption) ?_
  rotate_left 1
  · (intro w hSw;(try dsimp only at hSw);go_simp;(try with_reducible rfl))
  (try simp only[Act.put,List.getElem_toArray,List.getElem_cons_zero,List.getElem_cons_succ,List.setIfInBounds_toArray,List.set_cons_zero,List.set_cons_succ])
  refine wpAnyH_take (i:=7) (v:=?_) rfl (by kernel_rfl) (by kernel_rfl) (by kernel_rfl) (fun _ _ _ h=>h) (Or.inl ⟨by rfl,?_⟩) (by assumption) ?_
  rotate_left 1
  · (intro w hSw;(try dsimp only at hSw);go_simp;(try with_reducible rfl))
  (try simp only[Act.put,List.getElem_toArray,List.getElem_cons_zero,List.getElem_cons_succ,List.setIfInBounds_toArray,List.set_cons_zero,List.set_cons_succ])
  refine wpAnyH_take (i:=8) (v:=?_) rfl (by kernel_rfl) (by kernel_rfl) (by kernel_rfl) (fun _ _ _ h=>h) (Or.inl ⟨by rfl,?_⟩) (by assumption) ?_
  rotate_left 1
  · (intro w hSw;(try dsimp only at hSw);go_simp;(try with_reducible rfl))
  (try simp only[Act.put,List.getElem_toArray,List.getElem_cons_zero,List.getElem_cons_succ,List.setIfInBounds_toArray,List.set_cons_zero,List.set_cons_succ])
  refine wpAnyH_ready (rs:=[2,5]) (by kernel_rfl) (by simp) ?_;refine AllReadyH.cons rfl (fun K hK=>?_) (AllReadyH.cons rfl (fun K hK=>?_) AllReadyH.nil)
  · go_simp
    refine hK.out _ _ (KSA.out _ (bal hbk _)) (fun hHeld=>?_);clear hK K;have hst:=bal (Below.refl Wd.heap.size Wd) (.cells #[.int .u8 s.first.fl.toNat,.int .u64 s.first.po,.int .u32 s.first.se,.int .u32 s.first.nu,.string s.first.la,.string s.first.bo] 27);have L2:=heap_alloc_new Wd (.cells #[.int .u8 s.first.fl.toNat,.int .u64 s.first.po,.int .u32 s.first.se,.int .u32 s.first.nu,.string s.first.la,.string s.first.bo] 27);have hz2:=hbk.size;replace hbk:=bt hbk hst;generalize Wd.alloc (.cells #[.int .u8 s.first.fl.toNat,.int .u64 s.first.po,.int .u32 s.first.se,.int .u32 s.first.nu,.string s.first.la,.string s.first.bo] 27)=wn1 at *;clear hst
    (try simp only[Act.put,List.getElem_toArray,List.getElem_cons_zero,List.getElem_cons_succ,List.setIfInBounds_toArray,List.set_cons_zero,List.set_cons_succ])
    refine wpAnyH_ready (rs:=[5]) (by kernel_rfl) (by simp) ?_;refine AllReadyH.cons rfl (fun K hK=>?_) AllReadyH.nil
    go_simp
    refine hK.out _ _ (KSA.out _ (bal hbk _)) (fun hHeld=>?_);clear hK K;have hst:=bal (Below.refl wn1.heap.size wn1) (.cells #[.string ⟨#[3,118,111,114,98,105,115]⟩,.string PL] 9);have L5:=heap_alloc_new wn1 (.cells #[.string ⟨#[3,118,111,114,98,105,115]⟩,.string PL] 9);replace L2:=blkP L2 hst;have hz5:=hbk.size;replace hbk:=bt hbk hst;generalize wn1.alloc (.cells #[.string ⟨#[3,118,111,114,98,105,115]⟩,.string PL] 9)=wn2 at *;clear hst
    (try simp only[Act.put,List.getElem_toArray,List.getElem_cons_zero,List.getElem_cons_succ,List.setIfInBounds_toArray,List.set_cons_zero,List.set_cons_succ])
    refine wpAnyH_ready (rs:=[6]) (by kernel_rfl) (by simp) ?_;refine AllReadyH.cons rfl (fun K hK=>?_) AllReadyH.nil
    go_simp
    (go_at_call 26;(with_reducible refine(KJ.out _ _ L5).mono ?_);rintro e5 wn3 ⟨rfl,hst⟩)
    refine hK.out _ _ (KSA.out _ (bt hbk hst)) (fun hHeld=>?_);clear hK K;replace L2:=blkP L2 hst;replace L5:=blkP L5 hst;replace hbk:=bt hbk hst;clear hst
    (try simp only[Act.put,List.getElem_toArray,List.getElem_cons_zero,List.getElem_cons_succ,List.setIfInBounds_toArray,List.set_cons_zero,List.set_cons_succ])
    refine wpAnyH_ready (rs:=[9]) (by kernel_rfl) (by simp) ?_;refine AllReadyH.cons rfl (fun K hK=>?_) AllReadyH.nil
    go_simp
    refine hK.out _ _ (KSA.out _ (bal hbk _)) (fun hHeld=>?_);clear hK K;have hst:=bal (Below.refl wn3.heap.size wn3) (.cells #[.string (pkA s),.string s.setup] 9);have L9:=heap_alloc_new wn3 (.cells #[.string (pkA s),.string s.setup] 9);replace L2:=blkP L2 hst;replace L5:=blkP L5 hst;have hz9:=hbk.size;replace hbk:=bt hbk hst;generalize wn3.alloc (.cells #[.string (pkA s),.string s.setup] 9)=wn4 at *;clear hst
    (try simp only[Act.put,List.getElem_toArray,List.getElem_cons_zero,List.getElem_cons_succ,List.setIfInBounds_toArray,List.set_cons_zero,List.set_cons_succ])
    refine wpAnyH_ready (rs:=[10]) (by kernel_rfl) (by simp) ?_;refine AllReadyH.cons rfl (fun K hK=>?_) AllReadyH.nil
    go_simp
    (go_at_call 28;(with_reducible refine(KPP.out _ _ L9).mono ?_);rintro e5 wn5 ⟨hst,v10,rfl,ho10⟩)
    refine hK.out _ _ (KSA.out _ (bt hbk hst)) (fun hHeld=>?_);clear hK K;replace L2:=blkP L2 hst;replace L5:=blkP L5 hst;replace L9:=blkP L9 hst;replace hbk:=bt hbk hst;clear hst
    (try simp only[Act.put,List.getElem_toArray,List.getElem_cons_zero,List.getElem_cons_succ,List.setIfInBounds_toArray,List.set_cons_zero,List.set_cons_succ])
    refine wpAnyH_ready (rs:=[11]) (by kernel_rfl) (by simp) ?_;refine AllReadyH.cons rfl (fun K hK=>?_) AllReadyH.nil;obtain⟨g10,c10,rfl,_⟩:=jc9 ho10 HML.out;have hc10:∀(j:Nat) (u:Value),(gcells (midO s))[j]?=some u→wn5.cell? ((⟨g10,0,none⟩:Addr).add j)=some u:=fun j u hj=>by
     obtain⟨a',c',h1,h2⟩:=jc2 ho10;simp only[Value.slice.injEq]at h1;obtain⟨rfl,_,_⟩:=h1;obtain⟨g',o',e',hcc⟩:=h2 j u hj;simp only[Option.some.injEq,Addr.mk.injEq,and_true]at e';obtain⟨rfl,rfl⟩:=e';rw[jq9];exact hcc
    have hA2:Wd.heap.size≤wn5.heap.size:=Nat.le_of_lt (Array.getElem?_eq_some_iff.1 L2).1;have HC10:=Lib.hid hc10;clear hc10;refine js7 rfl _ _ 34 27 rfl Tryz.underlying34 (.agg #[.int .u8 0,.int .u64 0,.int .u32 0,.int .u32 0,.string ⟨#[]⟩,.string ⟨#[]⟩]) 6 56 jf6 jt0 (by decide) wn5 (Wd.heap.size) (.slice (some ⟨Wd.heap.size,0,none⟩) 1 1) 1 #[.int .u8 s.first.fl.toNat,.int .u64 s.first.po,.int .u32 s.first.se,.int .u32 s.first.nu,.string s.first.la,.string s.first.bo].toList rfl (jm3 (n:=1) (s:=6) L2 rfl (by decide)) ⟨g10,0,none⟩ (midO s).length c10 (gcells (midO s)) rfl (jf0 _) HC10.out (jg9 _) HMA.out HMB.out hA2 ?_;intro v11 wn6 ho11 hb11;have hst:=hbk.trans (hb11.mono hz2);refine hK.out _ _ (KSA.out _ hst) (fun hHeld=>?_);clear hK K;replace ho11:=jc3 ho11 hz2;clear hbk hb11 ho10;have hbk:=hst;clear hst
    (try simp only[Act.put,List.getElem_toArray,List.getElem_cons_zero,List.getElem_cons_succ,List.setIfInBounds_toArray,List.set_cons_zero,List.set_cons_succ])
    refine wpAnyH_take (i:=12) (v:=?_) rfl (by kernel_rfl) (by kernel_rfl) (by kernel_rfl) (fun _ _ _ h=>h) (Or.inl ⟨by rfl,?_⟩) (by assumption) ?_
    rotate_left 1
    · (intro w hSw;(try dsimp only at hSw);go_simp;(try with_reducible rfl))
    (try simp only[Act.put,List.getElem_toArray,List.getElem_cons_zero,List.getElem_cons_succ,List.setIfInBounds_toArray,List.set_cons_zero,List.set_cons_succ])
    refine wpAnyH_done (by kernel_rfl) ?_ _
    go_wp2_with fail
    go_meet
    exact⟨_,rfl,hbk,by rw[←HGC.out];exact ho11⟩
  · go_simp
    refine hK.out _ _ (KSA.out _ (bal hbk _)) (fun hHeld=>?_);clear hK K;have hst:=bal (Below.refl Wd.heap.size Wd) (.cells #[.string ⟨#[3,118,111,114,98,105,115]⟩,.string PL] 9);have L5:=heap_alloc_new Wd (.cells #[.string ⟨#[3,118,111,114,98,105,115]⟩,.string PL] 9);have hz5:=hbk.size;replace hbk:=bt hbk hst;generalize Wd.alloc (.cells #[.string ⟨#[3,118,111,114,98,105,115]⟩,.string PL] 9)=wn7 at *;clear hst
    (try simp only[Act.put,List.getElem_toArray,List.getElem_cons_zero,List.getElem_cons_succ,List.setIfInBounds_toArray,List.set_cons_zero,List.set_cons_succ])
    refine wpAnyH_ready (rs:=[2,6]) (by kernel_rfl) (by simp) ?_;refine AllReadyH.cons rfl (fun K hK=>?_) (AllReadyH.cons rfl (fun K hK=>?_) AllReadyH.nil)
    · go_simp
      refine hK.out _ _ (KSA.out _ (bal hbk _)) (fun hHeld=>?_);clear hK K;have hst:=bal (Below.refl wn7.heap.size wn7) (.cells #[.int .u8 s.first.fl.toNat,.int .u64 s.first.po,.int .u32 s.first.se,.int .u32 s.first.nu,.string s.first.la,.string s.first.bo] 27);have L2:=heap_alloc_new wn7 (.cells #[.int .u8 s.first.fl.toNat,.int .u64 s.first.po,.int .u32 s.first.se,.int .u32 s.first.nu,.string s.first.la,.string s.first.bo] 27);replace L5:=blkP L5 hst;have hz2:=hbk.size;replace hbk:=bt hbk hst;generalize wn7.alloc (.cells #[.int .u8 s.first.fl.toNat,.int .u64 s.first.po,.int .u32 s.first.se,.int .u32 s.first.nu,.string s.first.la,.string s.first.bo] 27)=wn8 at *;clear hst
      (try simp only[Act.put,List.getElem_toArray,List.getElem_cons_zero,List.getElem_cons_succ,List.setIfInBounds_toArray,List.set_cons_zero,List.set_cons_succ])
      refine wpAnyH_ready (rs:=[6]) (by kernel_rfl) (by simp) ?_;refine AllReadyH.cons rfl (fun K hK=>?_) AllReadyH.nil
      go_simp
      (go_at_call 26;(with_reducible refine(KJ.out _ _ L5).mono ?_);rintro e5 wn9 ⟨rfl,hst⟩)
      refine hK.out _ _ (KSA.out _ (bt hbk hst)) (fun hHeld=>?_);clear hK K;replace L5:=blkP L5 hst;replace L2:=blkP L2 hst;replace hbk:=bt hbk hst;clear hst
      (try simp only[Act.put,List.getElem_toArray,List.getElem_cons_zero,List.getElem_cons_succ,List.setIfInBounds_toArray,List.set_cons_zero,List.set_cons_succ])
      refine wpAnyH_ready (rs:=[9]) (by kernel_rfl) (by simp) ?_;refine AllReadyH.cons rfl (fun K hK=>?_) AllReadyH.nil
      go_simp
      refine hK.out _ _ (KSA.out _ (bal hbk _)) (fun hHeld=>?_);clear hK K;have hst:=bal (Below.refl wn9.heap.size wn9) (.cells #[.string (pkA s),.string s.setup] 9);have L9:=heap_alloc_new wn9 (.cells #[.string (pkA s),.string s.setup] 9);replace L5:=blkP L5 hst;replace L2:=blkP L2 hst;have hz9:=hbk.size;replace hbk:=bt hbk hst;generalize wn9.alloc (.cells #[.string (pkA s),.string s.setup] 9)=wn10 at *;clear hst
      (try simp only[Act.put,List.getElem_toArray,List.getElem_cons_zero,List.getElem_cons_succ,List.setIfInBounds_toArray,List.set_cons_zero,List.set_cons_succ])
      refine wpAnyH_ready (rs:=[10]) (by kernel_rfl) (by simp) ?_;refine AllReadyH.cons rfl (fun K hK=>?_) AllReadyH.nil
      go_simp
      (go_at_call 28;(with_reducible refine(KPP.out _ _ L9).mono ?_);rintro e5 wn11 ⟨hst,v10,rfl,ho10⟩)
      refine hK.out _ _ (KSA.out _ (bt hbk hst)) (fun hHeld=>?_);clear hK K;replace L5:=blkP L5 hst;replace L2:=blkP L2 hst;replace L9:=blkP L9 hst;replace hbk:=bt hbk hst;clear hst
      (try simp only[Act.put,List.getElem_toArray,List.getElem_cons_zero,List.getElem_cons_succ,List.setIfInBounds_toArray,List.set_cons_zero,List.set_cons_succ])
      refine wpAnyH_ready (rs:=[11]) (by kernel_rfl) (by simp) ?_;refine AllReadyH.cons rfl (fun K hK=>?_) AllReadyH.nil;obtain⟨g10,c10,rfl,_⟩:=jc9 ho10 HML.out;have hc10:∀(j:Nat) (u:Value),(gcells (midO s))[j]?=some u→wn11.cell? ((⟨g10,0,none⟩:Addr).add j)=some u:=fun j u hj=>by
       obtain⟨a',c',h1,h2⟩:=jc2 ho10;simp only[Value.slice.injEq]at h1;obtain⟨rfl,_,_⟩:=h1;obtain⟨g',o',e',hcc⟩:=h2 j u hj;simp only[Option.some.injEq,Addr.mk.injEq,and_true]at e';obtain⟨rfl,rfl⟩:=e';rw[jq9];exact hcc
      have hA2:wn7.heap.size≤wn11.heap.size:=Nat.le_of_lt (Array.getElem?_eq_some_iff.1 L2).1;have HC10:=Lib.hid hc10;clear hc10;refine js7 rfl _ _ 34 27 rfl Tryz.underlying34 (.agg #[.int .u8 0,.int .u64 0,.int .u32 0,.int .u32 0,.string ⟨#[]⟩,.string ⟨#[]⟩]) 6 56 jf6 jt0 (by decide) wn11 (wn7.heap.size) (.slice (some ⟨wn7.heap.size,0,none⟩) 1 1) 1 #[.int .u8 s.first.fl.toNat,.int .u64 s.first.po,.int .u32 s.first.se,.int .u32 s.first.nu,.string s.first.la,.string s.first.bo].toList rfl (jm3 (n:=1) (s:=6) L2 rfl (by decide)) ⟨g10,0,none⟩ (midO s).length c10 (gcells (midO s)) rfl (jf0 _) HC10.out (jg9 _) HMA.out HMB.out hA2 ?_;intro v11 wn12 ho11 hb11;have hst:=hbk.trans (hb11.mono hz2);refine hK.out _ _ (KSA.out _ hst) (fun hHeld=>?_);clear hK K;replace ho11:=jc3 ho11 hz2;clear hbk hb11 ho10;have hbk:=hst;clear hst
      (try simp only[Act.put,List.getElem_toArray,List.getElem_cons_zero,List.getElem_cons_succ,List.setIfInBounds_toArray,List.set_cons_zero,List.set_cons_succ])
      refine wpAnyH_take (i:=12) (v:=?_) rfl (by kernel_rfl) (by kernel_rfl) (by kernel_rfl) (fun _ _ _ h=>h) (Or.inl ⟨by rfl,?_⟩) (by assumption) ?_
      rotate_left 1
      · (intro w hSw;(try dsimp only at hSw);go_simp;(try with_reducible rfl))
      (try simp only[Act.put,List.getElem_toArray,List.getElem_cons_zero,List.getElem_cons_succ,List.setIfInBounds_toArray,List.set_cons_zero,List.set_cons_succ])
      refine wpAnyH_done (by kernel_rfl) ?_ _
      go_wp2_with fail
      go_meet
      exact⟨_,rfl,hbk,by rw[←HGC.out];exact ho11⟩
    · go_simp
      (go_at_call 26;(with_reducible refine(KJ.out _ _ L5).mono ?_);rintro e5 wn13 ⟨rfl,hst⟩)
      refine hK.out _ _ (KSA.out _ (bt hbk hst)) (fun hHeld=>?_);clear hK K;replace L5:=blkP L5 hst;replace hbk:=bt hbk hst;clear hst
      (try simp only[Act.put,List.getElem_toArray,List.getElem_cons_zero,List.getElem_cons_succ,List.setIfInBounds_toArray,List.set_cons_zero,List.set_cons_succ])
      refine wpAnyH_ready (rs:=[2,9]) (by kernel_rfl) (by simp) ?_;refine AllReadyH.cons rfl (fun K hK=>?_) (AllReadyH.cons rfl (fun K hK=>?_) AllReadyH.nil)
      · go_simp
        refine hK.out _ _ (KSA.out _ (bal hbk _)) (fun hHeld=>?_);clear hK K;have hst:=bal (Below.refl wn13.heap.size wn13) (.cells #[.int .u8 s.first.fl.toNat,.int .u64 s.first.po,.int .u32 s.first.se,.int .u32 s.first.nu,.string s.first.la,.string s.first.bo] 27);have L2:=heap_alloc_new wn13 (.cells #[.int .u8 s.first.fl.toNat,.int .u64 s.first.po,.int .u32 s.first.se,.int .u32 s.first.nu,.string s.first.la,.string s.first.bo] 27);replace L5:=blkP L5 hst;have hz2:=hbk.size;replace hbk:=bt hbk hst;generalize wn13.alloc (.cells #[.int .u8 s.first.fl.toNat,.int .u64 s.first.po,.int .u32 s.first.se,.int .u32 s.first.nu,.string s.first.la,.string s.first.bo] 27)=wn14 at *;clear hst
        (try simp only[Act.put,List.getElem_toArray,List.getElem_cons_zero,List.getElem_cons_succ,List.setIfInBounds_toArray,List.set_cons_zero,List.set_cons_succ])
        refine wpAnyH_ready (rs:=[9]) (by kernel_rfl) (by simp) ?_;refine AllReadyH.cons rfl (fun K hK=>?_) AllReadyH.nil
        go_simp
        refine hK.out _ _ (KSA.out _ (bal hbk _)) (fun hHeld=>?_);clear hK K;have hst:=bal (Below.refl wn14.heap.size wn14) (.cells #[.string (pkA s),.string s.setup] 9);have L9:=heap_alloc_new wn14 (.cells #[.string (pkA s),.string s.setup] 9);replace L5:=blkP L5 hst;replace L2:=blkP L2 hst;have hz9:=hbk.size;replace hbk:=bt hbk hst;generalize wn14.alloc (.cells #[.string (pkA s),.string s.setup] 9)=wn15 at *;clear hst
        (try simp only[Act.put,List.getElem_toArray,List.getElem_cons_zero,List.getElem_cons_succ,List.setIfInBounds_toArray,List.set_cons_zero,List.set_cons_succ])
        refine wpAnyH_ready (rs:=[10]) (by kernel_rfl) (by simp) ?_;refine AllReadyH.cons rfl (fun K hK=>?_) AllReadyH.nil
        go_simp
        (go_at_call 28;(with_reducible refine(KPP.out _ _ L9).mono ?_);rintro e5 wn16 ⟨hst,v10,rfl,ho10⟩)
        refine hK.out _ _ (KSA.out _ (bt hbk hst)) (fun hHeld=>?_);clear hK K;replace L5:=blkP L5 hst;replace L2:=blkP L2 hst;replace L9:=blkP L9 hst;replace hbk:=bt hbk hst;clear hst
        (try simp only[Act.put,List.getElem_toArray,List.getElem_cons_zero,List.getElem_cons_succ,List.setIfInBounds_toArray,List.set_cons_zero,List.set_cons_succ])
        refine wpAnyH_ready (rs:=[11]) (by kernel_rfl) (by simp) ?_;refine AllReadyH.cons rfl (fun K hK=>?_) AllReadyH.nil;obtain⟨g10,c10,rfl,_⟩:=jc9 ho10 HML.out;have hc10:∀(j:Nat) (u:Value),(gcells (midO s))[j]?=some u→wn16.cell? ((⟨g10,0,none⟩:Addr).add j)=some u:=fun j u hj=>by
         obtain⟨a',c',h1,h2⟩:=jc2 ho10;simp only[Value.slice.injEq]at h1;obtain⟨rfl,_,_⟩:=h1;obtain⟨g',o',e',hcc⟩:=h2 j u hj;simp only[Option.some.injEq,Addr.mk.injEq,and_true]at e';obtain⟨rfl,rfl⟩:=e';rw[jq9];exact hcc
        have hA2:wn13.heap.size≤wn16.heap.size:=Nat.le_of_lt (Array.getElem?_eq_some_iff.1 L2).1;have HC10:=Lib.hid hc10;clear hc10;refine js7 rfl _ _ 34 27 rfl Tryz.underlying34 (.agg #[.int .u8 0,.int .u64 0,.int .u32 0,.int .u32 0,.string ⟨#[]⟩,.string ⟨#[]⟩]) 6 56 jf6 jt0 (by decide) wn16 (wn13.heap.size) (.slice (some ⟨wn13.heap.size,0,none⟩) 1 1) 1 #[.int .u8 s.first.fl.toNat,.int .u64 s.first.po,.int .u32 s.first.se,.int .u32 s.first.nu,.string s.first.la,.string s.first.bo].toList rfl (jm3 (n:=1) (s:=6) L2 rfl (by decide)) ⟨g10,0,none⟩ (midO s).length c10 (gcells (midO s)) rfl (jf0 _) HC10.out (jg9 _) HMA.out HMB.out hA2 ?_;intro v11 wn17 ho11 hb11;have hst:=hbk.trans (hb11.mono hz2);refine hK.out _ _ (KSA.out _ hst) (fun hHeld=>?_);clear hK K;replace ho11:=jc3 ho11 hz2;clear hbk hb11 ho10;have hbk:=hst;clear hst
        (try simp only[Act.put,List.getElem_toArray,List.getElem_cons_zero,List.getElem_cons_succ,List.setIfInBounds_toArray,List.set_cons_zero,List.set_cons_succ])
        refine wpAnyH_take (i:=12) (v:=?_) rfl (by kernel_rfl) (by kernel_rfl) (by kernel_rfl) (fun _ _ _ h=>h) (Or.inl ⟨by rfl,?_⟩) (by assumption) ?_
        rotate_left 1
        · (intro w hSw;(try dsimp only at hSw);go_simp;(try with_reducible rfl))
        (try simp only[Act.put,List.getElem_toArray,List.getElem_cons_zero,List.getElem_cons_succ,List.setIfInBounds_toArray,List.set_cons_zero,List.set_cons_succ])
        refine wpAnyH_done (by kernel_rfl) ?_ _
        go_wp2_with fail
        go_meet
        exact⟨_,rfl,hbk,by rw[←HGC.out];exact ho11⟩
      · go_simp
        refine hK.out _ _ (KSA.out _ (bal hbk _)) (fun hHeld=>?_);clear hK K;have hst:=bal (Below.refl wn13.heap.size wn13) (.cells #[.string (pkA s),.string s.setup] 9);have L9:=heap_alloc_new wn13 (.cells #[.string (pkA s),.string s.setup] 9);replace L5:=blkP L5 hst;have hz9:=hbk.size;replace hbk:=bt hbk hst;generalize wn13.alloc (.cells #[.string (pkA s),.string s.setup] 9)=wn18 at *;clear hst
        (try simp only[Act.put,List.getElem_toArray,List.getElem_cons_zero,List.getElem_cons_succ,List.setIfInBounds_toArray,List.set_cons_zero,List.set_cons_succ])
        refine wpAnyH_ready (rs:=[2,10]) (by kernel_rfl) (by simp) ?_;refine AllReadyH.cons rfl (fun K hK=>?_) (AllReadyH.cons rfl (fun K hK=>?_) AllReadyH.nil)
        · go_simp
          refine hK.out _ _ (KSA.out _ (bal hbk _)) (fun hHeld=>?_);clear hK K;have hst:=bal (Below.refl wn18.heap.size wn18) (.cells #[.int .u8 s.first.fl.toNat,.int .u64 s.first.po,.int .u32 s.first.se,.int .u32 s.first.nu,.string s.first.la,.string s.first.bo] 27);have L2:=heap_alloc_new wn18 (.cells #[.int .u8 s.first.fl.toNat,.int .u64 s.first.po,.int .u32 s.first.se,.int .u32 s.first.nu,.string s.first.la,.string s.first.bo] 27);replace L5:=blkP L5 hst;replace L9:=blkP L9 hst;have hz2:=hbk.size;replace hbk:=bt hbk hst;generalize wn18.alloc (.cells #[.int .u8 s.first.fl.toNat,.int .u64 s.first.po,.int .u32 s.first.se,.int .u32 s.first.nu,.string s.first.la,.string s.first.bo] 27)=wn19 at *;clear hst
          (try simp only[Act.put,List.getElem_toArray,List.getElem_cons_zero,List.getElem_cons_succ,List.setIfInBounds_toArray,List.set_cons_zero,List.set_cons_succ])
          refine wpAnyH_ready (rs:=[10]) (by kernel_rfl) (by simp) ?_;refine AllReadyH.cons rfl (fun K hK=>?_) AllReadyH.nil
          go_simp
          (go_at_call 28;(with_reducible refine(KPP.out _ _ L9).mono ?_);rintro e5 wn20 ⟨hst,v10,rfl,ho10⟩)
          refine hK.out _ _ (KSA.out _ (bt hbk hst)) (fun hHeld=>?_);clear hK K;replace L5:=blkP L5 hst;replace L9:=blkP L9 hst;replace L2:=blkP L2 hst;replace hbk:=bt hbk hst;clear hst
          (try simp only[Act.put,List.getElem_toArray,List.getElem_cons_zero,List.getElem_cons_succ,List.setIfInBounds_toArray,List.set_cons_zero,List.set_cons_succ])
          refine wpAnyH_ready (rs:=[11]) (by kernel_rfl) (by simp) ?_;refine AllReadyH.cons rfl (fun K hK=>?_) AllReadyH.nil;obtain⟨g10,c10,rfl,_⟩:=jc9 ho10 HML.out;have hc10:∀(j:Nat) (u:Value),(gcells (midO s))[j]?=some u→wn20.cell? ((⟨g10,0,none⟩:Addr).add j)=some u:=fun j u hj=>by
           obtain⟨a',c',h1,h2⟩:=jc2 ho10;simp only[Value.slice.injEq]at h1;obtain⟨rfl,_,_⟩:=h1;obtain⟨g',o',e',hcc⟩:=h2 j u hj;simp only[Option.some.injEq,Addr.mk.injEq,and_true]at e';obtain⟨rfl,rfl⟩:=e';rw[jq9];exact hcc
          have hA2:wn18.heap.size≤wn20.heap.size:=Nat.le_of_lt (Array.getElem?_eq_some_iff.1 L2).1;have HC10:=Lib.hid hc10;clear hc10;refine js7 rfl _ _ 34 27 rfl Tryz.underlying34 (.agg #[.int .u8 0,.int .u64 0,.int .u32 0,.int .u32 0,.string ⟨#[]⟩,.string ⟨#[]⟩]) 6 56 jf6 jt0 (by decide) wn20 (wn18.heap.size) (.slice (some ⟨wn18.heap.size,0,none⟩) 1 1) 1 #[.int .u8 s.first.fl.toNat,.int .u64 s.first.po,.int .u32 s.first.se,.int .u32 s.first.nu,.string s.first.la,.string s.first.bo].toList rfl (jm3 (n:=1) (s:=6) L2 rfl (by decide)) ⟨g10,0,none⟩ (midO s).length c10 (gcells (midO s)) rfl (jf0 _) HC10.out (jg9 _) HMA.out HMB.out hA2 ?_;intro v11 wn21 ho11 hb11;have hst:=hbk.trans (hb11.mono hz2);refine hK.out _ _ (KSA.out _ hst) (fun hHeld=>?_);clear hK K;replace ho11:=jc3 ho11 hz2;clear hbk hb11 ho10;have hbk:=hst;clear hst
          (try simp only[Act.put,List.getElem_toArray,List.getElem_cons_zero,List.getElem_cons_succ,List.setIfInBounds_toArray,List.set_cons_zero,List.set_cons_succ])
          refine wpAnyH_take (i:=12) (v:=?_) rfl (by kernel_rfl) (by kernel_rfl) (by kernel_rfl) (fun _ _ _ h=>h) (Or.inl ⟨by rfl,?_⟩) (by assumption) ?_
          rotate_left 1
          · (intro w hSw;(try dsimp only at hSw);go_simp;(try with_reducible rfl))
          (try simp only[Act.put,List.getElem_toArray,List.getElem_cons_zero,List.getElem_cons_succ,List.setIfInBounds_toArray,List.set_cons_zero,List.set_cons_succ])
          refine wpAnyH_done (by kernel_rfl) ?_ _
          go_wp2_with fail
          go_meet
          exact⟨_,rfl,hbk,by rw[←HGC.out];exact ho11⟩
        · go_simp
          (go_at_call 28;(with_reducible refine(KPP.out _ _ L9).mono ?_);rintro e5 wn22 ⟨hst,v10,rfl,ho10⟩)
          refine hK.out _ _ (KSA.out _ (bt hbk hst)) (fun hHeld=>?_);clear hK K;replace L5:=blkP L5 hst;replace L9:=blkP L9 hst;replace hbk:=bt hbk hst;clear hst
          (try simp only[Act.put,List.getElem_toArray,List.getElem_cons_zero,List.getElem_cons_succ,List.setIfInBounds_toArray,List.set_cons_zero,List.set_cons_succ])
          refine wpAnyH_ready (rs:=[2]) (by kernel_rfl) (by simp) ?_;refine AllReadyH.cons rfl (fun K hK=>?_) AllReadyH.nil
          go_simp
          refine hK.out _ _ (KSA.out _ (bal hbk _)) (fun hHeld=>?_);clear hK K;have hst:=bal (Below.refl wn22.heap.size wn22) (.cells #[.int .u8 s.first.fl.toNat,.int .u64 s.first.po,.int .u32 s.first.se,.int .u32 s.first.nu,.string s.first.la,.string s.first.bo] 27);have L2:=heap_alloc_new wn22 (.cells #[.int .u8 s.first.fl.toNat,.int .u64 s.first.po,.int .u32 s.first.se,.int .u32 s.first.nu,.string s.first.la,.string s.first.bo] 27);replace L5:=blkP L5 hst;replace L9:=blkP L9 hst;replace ho10:=jb2 ho10 hst;have hz2:=hbk.size;replace hbk:=bt hbk hst;generalize wn22.alloc (.cells #[.int .u8 s.first.fl.toNat,.int .u64 s.first.po,.int .u32 s.first.se,.int .u32 s.first.nu,.string s.first.la,.string s.first.bo] 27)=wn23 at *;clear hst
          (try simp only[Act.put,List.getElem_toArray,List.getElem_cons_zero,List.getElem_cons_succ,List.setIfInBounds_toArray,List.set_cons_zero,List.set_cons_succ])
          refine wpAnyH_ready (rs:=[11]) (by kernel_rfl) (by simp) ?_;refine AllReadyH.cons rfl (fun K hK=>?_) AllReadyH.nil;obtain⟨g10,c10,rfl,_⟩:=jc9 ho10 HML.out;have hc10:∀(j:Nat) (u:Value),(gcells (midO s))[j]?=some u→wn23.cell? ((⟨g10,0,none⟩:Addr).add j)=some u:=fun j u hj=>by
           obtain⟨a',c',h1,h2⟩:=jc2 ho10;simp only[Value.slice.injEq]at h1;obtain⟨rfl,_,_⟩:=h1;obtain⟨g',o',e',hcc⟩:=h2 j u hj;simp only[Option.some.injEq,Addr.mk.injEq,and_true]at e';obtain⟨rfl,rfl⟩:=e';rw[jq9];exact hcc
          have hA2:wn22.heap.size≤wn23.heap.size:=Nat.le_of_lt (Array.getElem?_eq_some_iff.1 L2).1;have HC10:=Lib.hid hc10;clear hc10;refine js7 rfl _ _ 34 27 rfl Tryz.underlying34 (.agg #[.int .u8 0,.int .u64 0,.int .u32 0,.int .u32 0,.string ⟨#[]⟩,.string ⟨#[]⟩]) 6 56 jf6 jt0 (by decide) wn23 (wn22.heap.size) (.slice (some ⟨wn22.heap.size,0,none⟩) 1 1) 1 #[.int .u8 s.first.fl.toNat,.int .u64 s.first.po,.int .u32 s.first.se,.int .u32 s.first.nu,.string s.first.la,.string s.first.bo].toList rfl (jm3 (n:=1) (s:=6) L2 rfl (by decide)) ⟨g10,0,none⟩ (midO s).length c10 (gcells (midO s)) rfl (jf0 _) HC10.out (jg9 _) HMA.out HMB.out hA2 ?_;intro v11 wn24 ho11 hb11;have hst:=hbk.trans (hb11.mono hz2);refine hK.out _ _ (KSA.out _ hst) (fun hHeld=>?_);clear hK K;replace ho11:=jc3 ho11 hz2;clear hbk hb11 ho10;have hbk:=hst;clear hst
          (try simp only[Act.put,List.getElem_toArray,List.getElem_cons_zero,List.getElem_cons_succ,List.setIfInBounds_toArray,List.set_cons_zero,List.set_cons_succ])
          refine wpAnyH_take (i:=12) (v:=?_) rfl (by kernel_rfl) (by kernel_rfl) (by kernel_rfl) (fun _ _ _ h=>h) (Or.inl ⟨by rfl,?_⟩) (by assumption) ?_
          rotate_left 1
          · (intro w hSw;(try dsimp only at hSw);go_simp;(try with_reducible rfl))
          (try simp only[Act.put,List.getElem_toArray,List.getElem_cons_zero,List.getElem_cons_succ,List.setIfInBounds_toArray,List.set_cons_zero,List.set_cons_succ])
          refine wpAnyH_done (by kernel_rfl) ?_ _
          go_wp2_with fail
          go_meet
          exact⟨_,rfl,hbk,by rw[←HGC.out];exact ho11⟩
 case rest=>
  obtain⟨u8,rfl,hbx,ho8⟩:=hcut;have C:=HC8.out.bel hbx;obtain⟨M8,hM8⟩:∃M8,M8=1+(midO s).length:=⟨_,rfl⟩;have hsum:M8+n≤1048576:=by
   have ol:=HOL.out;unfold opagesL at ol;simp only[List.cons_append,List.length_cons,List.length_append,jh2]at ol;have:=HN.out;omega
  rw[←hM8]at ho8;have HRES:Hid (opagesL s=s.first::midO s++renumL M8 s.sound):=Lib.hid (by rw[hM8];rfl);obtain⟨av8,cv8,hu8⟩:=jb4 ho8;subst hu8;have hs1:IntKind.i64.wrap ((M8:Int)+(n:Int))=(M8:Int)+(n:Int):=wi64 _ (by omega) (by omega);have hs2:¬(M8:Int)+(n:Int) > 1048576:=by omega
  have x10:=C.cell 10 _ rfl;obtain⟨q0,q0',q1,q1'⟩:=C.ret;have HC:=Lib.hid C;have HO8:=Lib.hid ho8;have HM8:=Lib.hid hM8;have HW8:Hid (w.heap.size+2≤W8.heap.size):=Lib.hid (Array.getElem?_eq_some_iff.1 HC8.out.rt).1;have HBW:Hid (∀(wz:World) {q:Nat} {v:Value} {cs:List Value},wz.ownsRow W8.heap.size 27 6 v q cs→q≠0→W8.heap.size≤wz.heap.size):=Lib.hid fun wz q v cs h hq=>by
   obtain⟨g',c',rfl,_⟩:=jc9 h hq;have:=jb7 h g' rfl;omega
  have hM80:M8≠0:=by omega
  clear hM8 hbx C ho8
  go_wp2_with fail
  clear q0 q0' q1 q1' x10
  go_loopw [8,55] (fun lv iv wr=>∃(i q:Nat),iv=.int .i64 (i:Int)∧i≤n∧Hid (q=M8+i)∧Hid (CS w (osC vn (.slice av n cap) s) wr)∧Hid (wr.ownsRow W8.heap.size 27 6 lv q (gcells (s.first::midO s++renumL M8 (s.sound.take i))))) (fun _ iv _=>n-(intOf iv).toNat)
  case atStart=>exact⟨0,M8,rfl,Nat.zero_le _,Lib.hid rfl,HC,Lib.hid (by
   have h:=HO8.out;rw[List.take_zero,show renumL M8 [] = [] from rfl,List.append_nil];exact h)⟩
  case round=>
   clear HC HO8;obtain⟨i,q,rfl,hi,HQ,HC,HO⟩:=hrel;obtain⟨av9,cv9,hu9⟩:=jb4 HO.out;subst hu9;have hq:=HQ.out;have hq2:q≤1048576:=by omega
   by_cases hlt:i<n
   · obtain⟨p,hp⟩:=jb6 s.sound i (by rw[←HN.out];exact hlt)
     obtain⟨gg,og,rfl,d0,d1,d2,d3,d4,d5⟩:=g_at HCV.out i p hp;replace d0:=kc HC.out.gg d0;replace d1:=kc HC.out.gg d1;replace d2:=kc HC.out.gg d2;replace d3:=kc HC.out.gg d3;replace d4:=kc HC.out.gg d4;replace d5:=kc HC.out.gg d5;have hst:gcells (s.first::midO s++renumL M8 (s.sound.take (i+1)))=gcells (s.first::midO s++renumL M8 (s.sound.take i))++(#[.int .u8 p.fl.toNat,.int .u64 p.po,.int .u32 p.se,.int .u32 q,.string p.la,.string p.bo]:Array Value).toList:=by
      have h1:i<s.sound.length:=by rw[←HN.out];exact hlt
      rw[List.take_add_one,hp,Option.toList_some,jz8,←List.append_assoc,jg8];rw[List.length_take,show(M8+min i s.sound.length)%4294967296=q by omega]
     obtain⟨fl,po,se,nu,la,bo⟩:=p;simp only at d0 d1 d2 d3 d4 d5 hst;generalize (fl.toNat:Int)=f at *;have hbA:=bal (Below.refl wr.heap.size wr) (.cells #[.int .u8 f,.int .u64 po,.int .u32 se,.int .u32 q,.string la,.string bo] 27);have hoA:=jb2 HO.out hbA;have hCA:=HC.out.bel hbA;have hBA:W8.heap.size≤(wr.alloc (.cells #[.int .u8 f,.int .u64 po,.int .u32 se,.int .u32 q,.string la,.string bo] 27)).heap.size:=HBW.out _ hoA (by omega);have m0:(0:Int)≤(i:Int):=by omega
     have m1:(i:Int)<(n:Int):=by omega
     have hw1:IntKind.i64.wrap ((i:Int)+1)=(i:Int)+1:=wi64 _ (by omega) (by omega);have hu:IntKind.u32.wrap (q:Int)=(q:Int):=by rw[IntKind.wrap_u32];omega
     have z1:q<70368744177664:=by omega
     have z2:(q+1)*56≤140737488355328:=by omega
     have HST:=Lib.hid hst;have HCA:=Lib.hid hCA;have HOA:=Lib.hid hoA;have HBA:=Lib.hid hBA;clear hp hst hq hbA hoA hCA hBA
     go_wp2_with (first
      | (at_builtin;(refine jc4 rfl _ _ 34 27 rfl Tryz.underlying34 (.agg #[.int .u8 0,.int .u64 0,.int .u32 0,.int .u32 0,.string ⟨#[]⟩,.string ⟨#[]⟩]) 6 56 jf6 rfl (by decide) (wr.alloc (.cells #[.int .u8 f,.int .u64 po,.int .u32 se,.int .u32 q,.string la,.string bo] 27)) W8.heap.size (.slice av9 q cv9) q (gcells (s.first::midO s++renumL M8 (s.sound.take i))) rfl HOA.out #[.int .u8 f,.int .u64 po,.int .u32 se,.int .u32 q,.string la,.string bo] rfl (by simp[Value.oneCell']) (by show Value.slice (some ⟨wr.heap.size+1,0,none⟩) 1 1=_;rw[World.size_alloc]) z1 z2 HBA.out ?_);intro v6 w6 hown6 hb6 hk6;rw[←HST.out]at hown6)
      | fail)
     have hC6:=CS.at HCA.out hb6 HW8.out
     go_roundw
     case rel=>exact⟨i+1,q+1,by go_num,by omega,Lib.hid (by have:=HQ.out;omega),Lib.hid hC6,Lib.hid hown6⟩
     case measure=>simp[intOf];omega
   · have hin:i=n:=by omega
     have ho:=HO.out;rw[hin,List.take_of_length_le (by rw[←HN.out];exact Nat.le_refl _),←HRES.out]at ho;have m1:¬(i:Int)<(n:Int):=by omega
     have C:=HC.out;obtain⟨q0,q0',q1,q1'⟩:=C.ret;have HOF:=Lib.hid ho;have HQL:Hid (q=(opagesL s).length):=Lib.hid (by
      rw[HRES.out];simp only[List.cons_append,List.length_cons,List.length_append,jh2];have h1:=HQ.out;have h2:=HN.out;have h3:=HM8.out;omega)
     clear hin ho hq
     go_wp2_with fail
     refine bodyPost_ret (v:=.tuple #[.slice av9 q cv9,.agg #[.int .i64 0,.int .i64 0]]) (by simp[results,Tryz.results9,go_sem,q0,q0',q1,q1']) rfl ?_;refine⟨(C.gg.setCell (by simp) _).setCell (by simp) _,_,rfl,?_⟩;have hr:=HOF.out;rw[HQL.out]at hr;have h8:=HW8.out;rw[HQL.out];refine jc3 (jb5 hr fun j hj=>?_) (by omega);have:=(jb7 hr j hj).1;rw[Below.heap_setCell _ _ _ j (by simp;omega),Below.heap_setCell _ _ _ j (by simp;omega)]
end Go.Proofs.YtagjkmkmphamoaaGreatDoor
