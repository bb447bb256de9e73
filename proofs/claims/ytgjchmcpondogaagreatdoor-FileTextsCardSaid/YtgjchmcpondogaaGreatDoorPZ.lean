/- PZ -/
import Derived.Test.YtgjchmcpondogaaGreatDoorPY
set_option linter.all false
set_option maxRecDepth 100000
set_option maxHeartbeats 40000000
namespace Go.Proofs.YtgjchmcpondogaaGreatDoor
open Go Go.Rf Go.RowKit Go.Proofs.Tryz
abbrev trZ:Array Value:=treeA 0 (.slice none 0 0) 0
theorem FS.setRow{w wr:World}{k:Int}(h:FS w k wr){g:Nat}(hp:w.heap.size+3≤g)(x:Array Value):FS w k (wr.setRow g x):=
 ⟨below_setRow h.gg _ (by omega) _,(setRow_other _ _ _ _ (by omega)).trans h.ob,(setRow_other _ _ _ _ (by omega)).trans h.tr,(setRow_other _ _ _ _ (by omega)).trans h.rt⟩
abbrev fa5:Array Value:=#[.int .i64 5,.int .i64 0]
structure GS (w:World) (k:Int) (a:Nat) (cs fc:Array Value) (wr:World):Prop where
 fs:FS w k wr
 tb:wr.heap[a]?=some (.cells cs 71 (0,0))
 fb:wr.heap[a+1]?=some (.cells fc 37 (0,0))
 ha:w.heap.size+3≤a
theorem yHO{w W:World}{k:Int}(C:FS w k W):GS w k W.heap.size trZ faZ ((W.alloc (.cells trZ 71)).alloc (.cells faZ 37)):=by
 have H5:(W.alloc (.cells trZ 71)).heap.size=W.heap.size+1:=Y4 _ _;refine⟨C.bel (bal (bal z8 _) _),(heap_alloc_old _ _ (by rw[H5];omega)).trans (heap_alloc_new _ _),?_,C.big⟩;rw[←H5];exact heap_alloc_new _ _
theorem GS.bel{w wr:World}{k:Int}{a:Nat}{cs fc:Array Value}(h:GS w k a cs fc wr){w':World}(hb:Below wr.heap.size wr w'):GS w k a cs fc w':=⟨h.fs.bel hb,blkQ h.tb hb,blkQ h.fb hb,h.ha⟩
theorem GS.set{w wr:World}{k:Int}{a:Nat}{cs fc:Array Value}(h:GS w k a cs fc wr)(x y:Array Value):GS w k a x y ((wr.setRow a x).setRow (a+1) y):=
 ⟨(h.fs.setRow h.ha x).setRow (by have:=h.ha;omega) _,(setRow_other _ _ _ _ (by omega)).trans (setRow_heap _ _ _ _ _ _ h.tb),setRow_heap _ _ _ _ _ _ ((setRow_other _ _ _ _ (by omega)).trans h.fb),h.ha⟩
theorem GS.fb1{w wr:World}{k:Int}{a:Nat}{cs fc:Array Value}(h:GS w k a cs fc wr)(x:Array Value):(wr.setRow a x).heap[a+1]?=some (.cells fc 37 (0,0)):=(setRow_other _ _ _ _ (by omega)).trans h.fb
theorem GS.flt{w wr:World}{k:Int}{a:Nat}{cs:Array Value}(h:GS w k a cs faZ wr):wr.cell? ⟨a+1,0,none⟩=some (.int .i64 0)∧wr.cell? ⟨a+1,1,none⟩=some (.int .i64 0):=⟨(zN h.fb 0 _ rfl).1,(zN h.fb 1 _ rfl).1⟩
theorem GS.knd{w wr:World}{k K z:Int}{a:Nat}{u:Value}{fc:Array Value}(h:GS w k a (treeA K u z) fc wr):wr.cell? ⟨a,0,none⟩=some (.int .i64 K)∧wr.frozen? ⟨a,0,none⟩=false:=zN h.tb 0 _ rfl
theorem GS.kind{w wr:World}{k z:Int}{a:Nat}{u:Value}{fc:Array Value}(h:GS w k a (treeA 0 u z) fc wr)(K:Int):GS w k a (treeA K u z) fc (wr.setCell ⟨a,0,none⟩ (.int .i64 K)):=
 ⟨h.fs.cell (p:=⟨a,0,none⟩) h.ha _,(Go.Lib.heap_setCell_same (i:=0) h.tb (.int .i64 K)).trans rfl,(Below.heap_setCell _ _ _ _ (by show a+1≠a;omega)).trans h.fb,h.ha⟩
theorem GS.own{w wr:World}{k:Int}{a:Nat}{cs fc:Array Value}(h:GS w k a cs fc wr):a+1<wr.heap.size:=(Array.getElem?_eq_some_iff.1 h.fb).1
theorem GS.kindK{w wr:World}{k z:Int}{a:Nat}{u:Value}{fc:Array Value}(h:GS w k a (treeA 0 u z) fc wr):GS w k a (treeA k u z) fc (wr.setCell ⟨a,0,none⟩ (.int .i64 k)):=h.kind k
theorem fa5One:fa5.all (·.oneCell')=true:=by kernel_rfl
theorem infoF5:(Tryz.prog.info? 37).map (·.size)=some fa5.size:=by show _=some 2;kernel_rfl
theorem yCT(k:Nat)(H8:4≤k)(H7:k<8)(l:List Pc)(w:World)(hG:GW w)(t:ByteArray)(hv:(scanL (bl t)).2=none)(hs:t.size≤999990)(hx:txM k t=.inl l):
 Calls prog 17 #[.string (prB t),.agg (opA k)] w (FReadP l k w):=by
 obtain⟨W,hW,C⟩:=yBE w k;have kp:∀wr,FS w k wr→Calls prog 46 #[.int .i64 k,.string (prB t),.agg (opA k)] wr (FReadP l 0 wr):=fun wr h=>y79 k H8 H7 l wr (hG.bel h.gg) t hv hs hx
 have kb:=fun w=>y0x 0 0 w
 rw[show(!decide ((0:Int)=0))=false from rfl]at kb;obtain⟨K,hK⟩:∃K:Int,K=(k:Int):=⟨_,rfl⟩;rw[←hK]at kp hW C ⊢;generalize prB t=S at *;have G0:=yHO C;have G1:=G0.set trZ fa5;obtain⟨W1,H5⟩:∃W1,W1=(((W.alloc (.cells trZ 71)).alloc (.cells faZ 37)).setRow W.heap.size trZ).setRow (W.heap.size+1) fa5:=⟨_,rfl⟩;rw[←H5]at G1;have He:=C.big;obtain⟨d0,d1,d2,d3⟩:=C.opt;obtain⟨g0,g1,g2,g3⟩:=G1.fs.opt;have KP:=z7 kp;have KB:=z7 kb;have KW:=z7 hW;have KW1:=z7 H5;clear kp kb hx hv hG hs hW H5;rcases(by omega:K=4∨K=5∨K=6∨K=7)with rfl|rfl|rfl|rfl
 all_goals (
  clear H8 H7 hK
  go_enter func17,ntmps17
  go_upto_region 1 with fail
  rw[←KW.out]
  go_upto_region 7 with fail
  go_upto_region 9 with(first
   | (refine Go.wpList_store_row rfl 71 _ _ rfl W.heap.size trZ rfl rfl 71 _ G0.tb (infoTr _ _ _) rfl (y2c _ _ _ _ _) ?_)
   | (refine Go.wpList_store_row rfl 37 _ _ rfl (W.heap.size+1) fa5 rfl rfl 37 faZ (G0.fb1 _) infoF5 rfl fa5One ?_))
  rw[←KW1.out]
  go_upto_region 20 with(first
   | (go_at_call 46;refine(KP.out _ G1.fs).mono ?_;rintro e1 w1 ⟨u,rfl,hu,Hc⟩;have G2:=G1.bel Hc;obtain⟨ua,uc,rfl⟩:=zL hu)
   | (refine Go.wpList_store_row rfl 71 _ _ rfl W.heap.size (treeA 0 (.slice ua l.length uc) 7) rfl rfl 71 _ G2.tb (infoTr _ _ _) rfl (y2c _ _ _ _ _) ?_)
   | (refine Go.wpList_store_row rfl 37 _ _ rfl (W.heap.size+1) faZ rfl rfl 37 fa5 (G2.fb1 _) infoFa rfl faOne ?_))
  have G3:=G2.set (treeA 0 (.slice ua l.length uc) 7) faZ;have Hd:=G1.own;have H6:=zw (zw hu (treeA 0 (.slice ua l.length uc) 7) (g:=W.heap.size) (by omega)) faZ (g:=W.heap.size+1) (by omega);obtain⟨X3,Ha⟩:∃X3,X3=(w1.setRow W.heap.size (treeA 0 (.slice ua l.length uc) 7)).setRow (W.heap.size+1) faZ:=⟨_,rfl⟩;rw[←Ha]at G3 H6 ⊢;clear Ha;obtain⟨f0,f1⟩:=G3.flt
  go_upto_region 23 with(go_at_call 13;refine(KB.out _).mono ?_;rintro e2 w2 ⟨rfl,H9⟩;have G4:=G3.bel H9;obtain⟨k0,k0'⟩:=G4.knd)
  have G5:=G4.kindK;have Hb:=fun x=>y1D (zK H6 H9) (p:=⟨W.heap.size,0,none⟩) x (by show W.heap.size<_;omega)
  go_wp2_with (first
   | (refine wpList_load_row rfl 71 _ rfl W.heap.size rfl 71 _ (0,0) _ G5.tb underlying71 rfl (infoTr _ _ _) ?_)
   | (refine Go.wpList_store_row rfl 71 _ _ rfl (w.heap.size+1) _ rfl rfl 71 _ G5.fs.tr (infoTr _ _ _) rfl (y2c _ _ _ _ _) ?_)
   | (refine Go.wpList_store_row rfl 37 _ _ rfl (w.heap.size+2) faZ rfl rfl 37 faZ ((setRow_other _ _ _ _ (by omega)).trans G5.fs.rt) infoFa rfl faOne ?_))
  refine bodyPost_ret (y2e rfl _ _ (w.heap.size+1) (w.heap.size+2) 71 37 _ faZ (0,0) (0,0) _ _ rfl rfl ((setRow_other _ _ _ _ (by omega)).trans (setRow_heap _ _ _ _ _ _ G5.fs.tr)) (setRow_heap _ _ _ _ _ _ ((setRow_other _ _ _ _ (by omega)).trans G5.fs.rt)) underlying71 rfl (infoTr _ _ _) underlying37 rfl infoFa) rfl ?_;exact⟨_,rfl,zb (zw (zw (Hb _) _ (by omega)) _ (by omega)) (by omega),below_setRow (below_setRow G5.fs.gg _ (by omega) _) _ (by omega) _⟩)
end Go.Proofs.YtgjchmcpondogaaGreatDoor
