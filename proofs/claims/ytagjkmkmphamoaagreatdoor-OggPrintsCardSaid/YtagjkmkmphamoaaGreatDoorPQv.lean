/- Qv -/
import Derived.Test.YtagjkmkmphamoaaGreatDoorPB8
set_option linter.all false
set_option maxHeartbeats 16000000
namespace Go.Proofs.YtagjkmkmphamoaaGreatDoor
open Go.RowKit
abbrev roZ:Array Value:=#[.int .i64 0,.int .u64 0,.int .u64 0,.int .u64 0,.string ⟨#[]⟩,.string ⟨#[]⟩,.string ⟨#[]⟩,.string ⟨#[]⟩,.int .i64 0,.slice none 0 0,.string ⟨#[]⟩,.slice none 0 0]
abbrev roC(vn vs:Value)(s:OS):Array Value:=#[.int .i64 s.first.fl.toNat,.int .u64 s.first.po,.int .u64 s.first.se,.int .u64 s.first.nu,.string s.first.la,.string s.first.bo,.string ⟨#[]⟩,.string s.b.vt,.int .i64 s.b.vs,vn,.string s.setup,vs]
structure QS (w:World) (cs:Array Value) (wr:World):Prop where
 gg:Below w.heap.size w wr
 bx:wr.heap[w.heap.size]?=some (.cells cs 36 (0,0))
 rt:wr.heap[w.heap.size+1]?=some (.cells roZ 48 (0,0))
theorem QS.bel{w wr:World}{cs:Array Value}(h:QS w cs wr){w':World}(hb:Below wr.heap.size wr w'):QS w cs w':=⟨bt h.gg hb,blkP h.bx hb,blkP h.rt hb⟩
theorem QS.cell{w wr:World}{cs:Array Value}(h:QS w cs wr)(i:Nat)(v:Value)(hi:cs[i]?=some v):wr.cell? ⟨w.heap.size,i,none⟩=some v:=(jb0 h.bx i v hi).1
theorem QS.ret{w wr:World}{cs:Array Value}(h:QS w cs wr)(i:Nat)(v:Value)(hi:roZ[i]?=some v):wr.cell? ⟨w.heap.size+1,i,none⟩=some v∧wr.frozen? ⟨w.heap.size+1,i,none⟩=false:=jb0 h.rt i v hi
theorem qs_start(w:World)(cs:Array Value):∃W,W=(w.alloc (.cells cs 36)).alloc (.cells roZ 48)∧QS w cs W:=by
 have hs1:(w.alloc (.cells cs 36)).heap.size=w.heap.size+1:=World.size_alloc _ _;refine⟨_,rfl,bal (bal (Below.refl _ _) _) _,?_,?_⟩
 · exact(heap_alloc_old _ _ (by rw[hs1];omega)).trans (heap_alloc_new _ _)
 · rw[←hs1];exact heap_alloc_new _ _
abbrev st12(wr:World)(b:Nat)(x0 x1 x2 x3 x4 x5 x6 x7 x8 x9 x10 x11:Value):World:=(((((((((((wr.setCell ⟨b,0,none⟩ x0).setCell ⟨b,1,none⟩ x1).setCell ⟨b,2,none⟩ x2).setCell ⟨b,3,none⟩ x3).setCell ⟨b,4,none⟩ x4).setCell ⟨b,5,none⟩ x5).setCell ⟨b,6,none⟩ x6).setCell ⟨b,7,none⟩ x7).setCell ⟨b,8,none⟩ x8).setCell ⟨b,9,none⟩ x9).setCell ⟨b,10,none⟩ x10).setCell ⟨b,11,none⟩ x11
theorem st12_bel{w wr:World}{b:Nat}(h:Below w.heap.size w wr)(hb:w.heap.size≤b)(x0 x1 x2 x3 x4 x5 x6 x7 x8 x9 x10 x11:Value):Below w.heap.size w (st12 wr b x0 x1 x2 x3 x4 x5 x6 x7 x8 x9 x10 x11):=by
 unfold st12
 iterate 12 refine Below.setCell ?_ hb _
 exact h
theorem jm9(wr:World)(b:Nat)(x0 x1 x2 x3 x4 x5 x6 x7 x8 x9 x10 x11:Value)(j:Nat)(hj:j≠b):(st12 wr b x0 x1 x2 x3 x4 x5 x6 x7 x8 x9 x10 x11).heap[j]?=wr.heap[j]?:=by
 unfold st12
 iterate 12 rw[Below.heap_setCell _ _ _ j (by simpa using hj)]
theorem kj4{wr:World}{b:Nat}{t:TypeId}(h:wr.heap[b]?=some (.cells roZ t (0,0)))(x0 x1 x2 x3 x4 x5 x6 x7 x8 x9 x10 x11:Value):(st12 wr b x0 x1 x2 x3 x4 x5 x6 x7 x8 x9 x10 x11).heap[b]?=some (.cells #[x0,x1,x2,x3,x4,x5,x6,x7,x8,x9,x10,x11] t (0,0)):=by
 have h0:=Go.Lib.heap_setCell_same (i:=0) h x0;have h1:=Go.Lib.heap_setCell_same (i:=1) h0 x1;have h2:=Go.Lib.heap_setCell_same (i:=2) h1 x2;have h3:=Go.Lib.heap_setCell_same (i:=3) h2 x3;have h4:=Go.Lib.heap_setCell_same (i:=4) h3 x4;have h5:=Go.Lib.heap_setCell_same (i:=5) h4 x5;have h6:=Go.Lib.heap_setCell_same (i:=6) h5 x6;have h7:=Go.Lib.heap_setCell_same (i:=7) h6 x7;have h8:=Go.Lib.heap_setCell_same (i:=8) h7 x8;have h9:=Go.Lib.heap_setCell_same (i:=9) h8 x9;have h10:=Go.Lib.heap_setCell_same (i:=10) h9 x10;have h11:=Go.Lib.heap_setCell_same (i:=11) h10 x11;unfold st12;rw[h11];simp
def OOfPost(s:OS)(w:World)(e:Ending)(w':World):Prop:=∃vn vs,e=.returned (.agg (roC vn vs s))∧w'.ownsRow w.heap.size 42 3 vn s.b.ns.length (ntcells s.b.ns)∧w'.ownsRow w.heap.size 40 6 vs s.sound.length (rgcells s.sound)∧Below w.heap.size w w'
theorem vb6:(Tryz.prog.info? 40).map (fun i=>(i.zero,i.size,i.bytes))=some (some (.agg #[.int .i64 0,.int .u64 0,.int .u64 0,.int .u64 0,.string ⟨#[]⟩,.string ⟨#[]⟩]),6,64):=by kernel_rfl
set_option maxRecDepth 100000 in
theorem qr9(vn vs:Value)(s:OS)(w:World)(hrow:OsRow w vn vs s)(hok:smOS s)(hnl:s.b.ns.length≤1000000)(hg1:okG s.first)(hg2:∀p∈s.sound,okG p):
 Calls Tryz.prog 6 #[.agg #[.int .u8 s.first.fl.toNat,.int .u64 s.first.po,.int .u32 s.first.se,.int .u32 s.first.nu,.string s.first.la,.string s.first.bo,.string s.b.vt,.int .i64 s.b.vs,vn,.string s.setup,vs]] w (OOfPost s w):=by
 obtain⟨av,cap,hvs,hcv⟩:=hrow.2;obtain⟨n,hn'⟩:∃n,n=s.sound.length:=⟨_,rfl⟩;rw[←hn']at hvs;have hsl:=hok.2.2.2.1;rw[←hn']at hsl;subst hvs;obtain⟨nn,hnn⟩:∃nn,nn=s.b.ns.length:=⟨_,rfl⟩;have kf:=fun w=>qt5 s.first w hg1
 unfold gV at kf;have kl:∀w',Below w.heap.size w w'→Calls Tryz.prog 20 #[.agg #[.string s.b.vt,.int .i64 s.b.vs,vn]] w' fun e w''=>∃v',e=.returned (.agg #[.string ⟨#[]⟩,.string s.b.vt,.int .i64 s.b.vs,v'])∧w''.ownsRow w'.heap.size 42 3 v' s.b.ns.length (ntcells s.b.ns)∧Below w'.heap.size w' w'':=fun w' hb=>lof_any vn s.b w' (hrow.1.keep hb) hok.1 hnl
 rw[←hnn]at kl;obtain⟨W,hW,C⟩:=qs_start w (osC vn (.slice av n cap) s);have hWs:W.heap.size=w.heap.size+2:=by rw[hW,World.size_alloc,World.size_alloc]
 have KSA:Hid (∀wz,Below W.heap.size W wz→wz.cell? ⟨w.heap.size,0,none⟩=some (.int .u8 s.first.fl.toNat)∧wz.cell? ⟨w.heap.size,1,none⟩=some (.int .u64 s.first.po)∧wz.cell? ⟨w.heap.size,2,none⟩=some (.int .u32 s.first.se)∧wz.cell? ⟨w.heap.size,3,none⟩=some (.int .u32 s.first.nu)∧wz.cell? ⟨w.heap.size,4,none⟩=some (.string s.first.la)∧wz.cell? ⟨w.heap.size,5,none⟩=some (.string s.first.bo)∧wz.cell? ⟨w.heap.size,6,none⟩=some (.string s.b.vt)∧wz.cell? ⟨w.heap.size,7,none⟩=some (.int .i64 s.b.vs)∧wz.cell? ⟨w.heap.size,8,none⟩=some (vn)∧wz.cell? ⟨w.heap.size,9,none⟩=some (.string s.setup)):=Lib.hid fun wz hb=>⟨(C.bel hb).cell 0 _ rfl,(C.bel hb).cell 1 _ rfl,(C.bel hb).cell 2 _ rfl,(C.bel hb).cell 3 _ rfl,(C.bel hb).cell 4 _ rfl,(C.bel hb).cell 5 _ rfl,(C.bel hb).cell 6 _ rfl,(C.bel hb).cell 7 _ rfl,(C.bel hb).cell 8 _ rfl,(C.bel hb).cell 9 _ rfl⟩
 have HCV:=Lib.hid hcv;have HN:=Lib.hid hn';have HNN:=Lib.hid hnn;have KF:=Lib.hid kf;have KL:=Lib.hid kl;have HC0:=Lib.hid C;have HWS:=Lib.hid hWs;have HG2:=Lib.hid hg2;clear hcv hn' hnn kf kl C hWs hg2;clear hrow hok hg1
 go_enter Tryz.func6,Tryz.ntmps6
 go_upto_region 1 with fail
 rw[←hW];clear hW
 go_cut [3] from 6 (fun s3 wx=>∃(gb:Nat) (a':Option Addr) (c':Nat),s3=.pointer (some ⟨gb,0,none⟩)∧W.heap.size≤gb∧Below W.heap.size W wx∧wx.heap[gb]?=some (.cells (roC (.slice a' nn c') (.slice none 0 0) s) 48 (0,0))∧wx.ownsRow W.heap.size 42 3 (.slice a' nn c') nn (ntcells s.b.ns))
 case first=>
  refine wp_region_held_drew (S:=fun w'=>w'.cell? ⟨w.heap.size,0,none⟩=some (.int .u8 s.first.fl.toNat)∧w'.cell? ⟨w.heap.size,1,none⟩=some (.int .u64 s.first.po)∧w'.cell? ⟨w.heap.size,2,none⟩=some (.int .u32 s.first.se)∧w'.cell? ⟨w.heap.size,3,none⟩=some (.int .u32 s.first.nu)∧w'.cell? ⟨w.heap.size,4,none⟩=some (.string s.first.la)∧w'.cell? ⟨w.heap.size,5,none⟩=some (.string s.first.bo)∧w'.cell? ⟨w.heap.size,6,none⟩=some (.string s.b.vt)∧w'.cell? ⟨w.heap.size,7,none⟩=some (.int .i64 s.b.vs)∧w'.cell? ⟨w.heap.size,8,none⟩=some (vn)∧w'.cell? ⟨w.heap.size,9,none⟩=some (.string s.setup)) (by kernel_rfl) (KSA.out _ (Below.refl _ _).drew) (fun hHeld=>?_);have hbk:Below W.heap.size W W.drew:=(Below.refl _ _).drew;generalize W.drew=Wd at *
  (try simp only[Act.put,List.getElem_toArray,List.getElem_cons_zero,List.getElem_cons_succ,List.setIfInBounds_toArray,List.set_cons_zero,List.set_cons_succ])
  refine wpAnyH_take (i:=0) (v:=?_) rfl (by kernel_rfl) (by kernel_rfl) (by kernel_rfl) (fun _ _ _ h=>h) (Or.inl ⟨by rfl,?_⟩) (by assumption) ?_
  rotate_left 1
  · (intro w hSw;(try dsimp only at hSw);go_simp;(try with_reducible rfl))
  (try simp only[Act.put,List.getElem_toArray,List.getElem_cons_zero,List.getElem_cons_succ,List.setIfInBounds_toArray,List.set_cons_zero,List.set_cons_succ])
  refine wpAnyH_take (i:=1) (v:=?_) rfl (by kernel_rfl) (by kernel_rfl) (by kernel_rfl) (fun _ _ _ h=>h) (Or.inl ⟨by rfl,?_⟩) (by assumption) ?_
  rotate_left 1
  · (intro w hSw;(try dsimp only at hSw);go_simp;(try with_reducible rfl))
  (try simp only[Act.put,List.getElem_toArray,List.getElem_cons_zero,List.getElem_cons_succ,List.setIfInBounds_toArray,List.set_cons_zero,List.set_cons_succ])
  refine wpAnyH_take (i:=3) (v:=?_) rfl (by kernel_rfl) (by kernel_rfl) (by kernel_rfl) (fun _ _ _ h=>h) (Or.inl ⟨by rfl,?_⟩) (by assumption) ?_
  rotate_left 1
  · (intro w hSw;(try dsimp only at hSw);go_simp;(try with_reducible rfl))
  (try simp only[Act.put,List.getElem_toArray,List.getElem_cons_zero,List.getElem_cons_succ,List.setIfInBounds_toArray,List.set_cons_zero,List.set_cons_succ])
  refine wpAnyH_take (i:=4) (v:=?_) rfl (by kernel_rfl) (by kernel_rfl) (by kernel_rfl) (fun _ _ _ h=>h) (Or.inl ⟨by rfl,?_⟩) (by assumption) ?_
  rotate_left 1
  · (intro w hSw;(try dsimp only at hSw);go_simp;(try with_reducible rfl))
  (try simp only[Act.put,List.getElem_toArray,List.getElem_cons_zero,List.getElem_cons_succ,List.setIfInBounds_toArray,List.set_cons_zero,List.set_cons_succ])
  refine wpAnyH_take (i:=6) (v:=?_) rfl (by kernel_rfl) (by kernel_rfl) (by kernel_rfl) (fun _ _ _ h=>h) (Or.inl ⟨by rfl,?_⟩) (by assumption) ?_
  rotate_left 1
  · (intro w hSw;(try dsimp only at hSw);go_simp;(try with_reducible rfl))
  (try simp only[Act.put,List.getElem_toArray,List.getElem_cons_zero,List.getElem_cons_succ,List.setIfInBounds_toArray,List.set_cons_zero,List.set_cons_succ])
  refine wpAnyH_take (i:=7) (v:=?_) rfl (by kernel_rfl) (by kernel_rfl) (by kernel_rfl) (fun _ _ _ h=>h) (Or.inl ⟨by rfl,?_⟩) (by assumption) ?_
  rotate_left 1
  · (intro w hSw;(try dsimp only at hSw);go_simp;(try with_reducible rfl))
  (try simp only[Act.put,List.getElem_toArray,List.getElem_cons_zero,List.getElem_cons_succ,List.setIfInBounds_toArray,List.set_cons_zero,List.set_cons_succ])
  refine wpAnyH_ready (rs:=[2,9]) (by kernel_rfl) (by simp) ?_;refine AllReadyH.cons rfl (fun K hK=>?_) (AllReadyH.cons rfl (fun K hK=>?_) AllReadyH.nil)
  · go_simp
    (go_at_call 13;(with_reducible refine(KF.out _).mono ?_);rintro e2 wn1 ⟨rfl,hst⟩)
    refine hK.out _ _ (KSA.out _ (bt hbk hst)) (fun hHeld=>?_);clear hK K;replace hbk:=bt hbk hst;clear hst
    (try simp only[Act.put,List.getElem_toArray,List.getElem_cons_zero,List.getElem_cons_succ,List.setIfInBounds_toArray,List.set_cons_zero,List.set_cons_succ])
    refine wpAnyH_ready (rs:=[5,9]) (by kernel_rfl) (by simp) ?_;refine AllReadyH.cons rfl (fun K hK=>?_) (AllReadyH.cons rfl (fun K hK=>?_) AllReadyH.nil)
    · go_simp
      (go_at_call 20;(with_reducible refine(KL.out _ (bt HC0.out.gg hbk)).mono ?_);rintro e5 wn2 ⟨v5,rfl,ho5,hst⟩)
      refine hK.out _ _ (KSA.out _ (bt hbk hst)) (fun hHeld=>?_);clear hK K;obtain⟨a5,c5,rfl⟩:=jb4 ho5;replace ho5:=jc3 ho5 hbk.size;replace hbk:=bt hbk hst;clear hst
      (try simp only[Act.put,List.getElem_toArray,List.getElem_cons_zero,List.getElem_cons_succ,List.setIfInBounds_toArray,List.set_cons_zero,List.set_cons_succ])
      refine wpAnyH_take (i:=8) (v:=?_) rfl (by kernel_rfl) (by kernel_rfl) (by kernel_rfl) (fun _ _ _ h=>h) (Or.inl ⟨by rfl,?_⟩) (by assumption) ?_
      rotate_left 1
      · (intro w hSw;(try dsimp only at hSw);go_simp;(try with_reducible rfl))
      (try simp only[Act.put,List.getElem_toArray,List.getElem_cons_zero,List.getElem_cons_succ,List.setIfInBounds_toArray,List.set_cons_zero,List.set_cons_succ])
      refine wpAnyH_ready (rs:=[9]) (by kernel_rfl) (by simp) ?_;refine AllReadyH.cons rfl (fun K hK=>?_) AllReadyH.nil
      go_simp
      refine hK.out _ _ (KSA.out _ (bal hbk _)) (fun hHeld=>?_);clear hK K;have hst:=bal (Below.refl wn2.heap.size wn2) (.cells #[.int .i64 0,.int .u64 0,.int .u64 0,.int .u64 0,.string ⟨#[]⟩,.string ⟨#[]⟩,.string ⟨#[]⟩,.string ⟨#[]⟩,.int .i64 0,.slice none 0 0,.string ⟨#[]⟩,.slice none 0 0] 48);have L9:=heap_alloc_new wn2 (.cells #[.int .i64 0,.int .u64 0,.int .u64 0,.int .u64 0,.string ⟨#[]⟩,.string ⟨#[]⟩,.string ⟨#[]⟩,.string ⟨#[]⟩,.int .i64 0,.slice none 0 0,.string ⟨#[]⟩,.slice none 0 0] 48);have hM9:=hbk.size;replace ho5:=jb2 ho5 hst;replace hbk:=bt hbk hst;generalize wn2.alloc (.cells #[.int .i64 0,.int .u64 0,.int .u64 0,.int .u64 0,.string ⟨#[]⟩,.string ⟨#[]⟩,.string ⟨#[]⟩,.string ⟨#[]⟩,.int .i64 0,.slice none 0 0,.string ⟨#[]⟩,.slice none 0 0] 48)=wn3 at *;clear hst
      (try simp only[Act.put,List.getElem_toArray,List.getElem_cons_zero,List.getElem_cons_succ,List.setIfInBounds_toArray,List.set_cons_zero,List.set_cons_succ])
      refine wpAnyH_ready (rs:=[10]) (by kernel_rfl) (by simp) ?_;refine AllReadyH.cons rfl (fun K hK=>?_) AllReadyH.nil;obtain⟨k0,k0'⟩:=jb0 L9 0 _ rfl;obtain⟨k1,k1'⟩:=jb0 L9 1 _ rfl;obtain⟨k2,k2'⟩:=jb0 L9 2 _ rfl;obtain⟨k3,k3'⟩:=jb0 L9 3 _ rfl;obtain⟨k4,k4'⟩:=jb0 L9 4 _ rfl;obtain⟨k5,k5'⟩:=jb0 L9 5 _ rfl;obtain⟨k6,k6'⟩:=jb0 L9 6 _ rfl;obtain⟨k7,k7'⟩:=jb0 L9 7 _ rfl;obtain⟨k8,k8'⟩:=jb0 L9 8 _ rfl;obtain⟨k9,k9'⟩:=jb0 L9 9 _ rfl;obtain⟨k10,k10'⟩:=jb0 L9 10 _ rfl;obtain⟨k11,k11'⟩:=jb0 L9 11 _ rfl
      go_simp
      have hst:Below W.heap.size W (st12 wn3 wn2.heap.size (.int .i64 s.first.fl.toNat) (.int .u64 s.first.po) (.int .u64 s.first.se) (.int .u64 s.first.nu) (.string s.first.la) (.string s.first.bo) (.string ⟨#[]⟩) (.string s.b.vt) (.int .i64 s.b.vs) (.slice a5 nn c5) (.string s.setup) (.slice none 0 0)):=by
       unfold st12
       iterate 12 refine Below.setCell ?_ hM9 _
       exact hbk
      refine hK.out _ _ (KSA.out _ hst) (fun hHeld=>?_);clear hK K k0 k0' k1 k1' k2 k2' k3 k3' k4 k4' k5 k5' k6 k6' k7 k7' k8 k8' k9 k9' k10 k10' k11 k11';replace ho5:(st12 wn3 wn2.heap.size (.int .i64 s.first.fl.toNat) (.int .u64 s.first.po) (.int .u64 s.first.se) (.int .u64 s.first.nu) (.string s.first.la) (.string s.first.bo) (.string ⟨#[]⟩) (.string s.b.vt) (.int .i64 s.b.vs) (.slice a5 nn c5) (.string s.setup) (.slice none 0 0)).ownsRow W.heap.size 42 3 (.slice a5 nn c5) nn (ntcells s.b.ns):=jb5 ho5 fun q hq=>jm9 _ _ _ _ _ _ _ _ _ _ _ _ _ _ q (fun e=>jd0 ho5 L9 (by decide) (by rw[hq,e]))
      replace L9:=kj4 L9 (.int .i64 s.first.fl.toNat) (.int .u64 s.first.po) (.int .u64 s.first.se) (.int .u64 s.first.nu) (.string s.first.la) (.string s.first.bo) (.string ⟨#[]⟩) (.string s.b.vt) (.int .i64 s.b.vs) (.slice a5 nn c5) (.string s.setup) (.slice none 0 0);replace hbk:=hst;clear hst
      (try simp only[Act.put,List.getElem_toArray,List.getElem_cons_zero,List.getElem_cons_succ,List.setIfInBounds_toArray,List.set_cons_zero,List.set_cons_succ])
      refine wpAnyH_done (by kernel_rfl) ?_ _
      go_wp2_with fail
      go_meet
      exact⟨wn2.heap.size,a5,c5,rfl,hM9,hbk,L9,ho5⟩
    · go_simp
      refine hK.out _ _ (KSA.out _ (bal hbk _)) (fun hHeld=>?_);clear hK K;have hst:=bal (Below.refl wn1.heap.size wn1) (.cells #[.int .i64 0,.int .u64 0,.int .u64 0,.int .u64 0,.string ⟨#[]⟩,.string ⟨#[]⟩,.string ⟨#[]⟩,.string ⟨#[]⟩,.int .i64 0,.slice none 0 0,.string ⟨#[]⟩,.slice none 0 0] 48);have L9:=heap_alloc_new wn1 (.cells #[.int .i64 0,.int .u64 0,.int .u64 0,.int .u64 0,.string ⟨#[]⟩,.string ⟨#[]⟩,.string ⟨#[]⟩,.string ⟨#[]⟩,.int .i64 0,.slice none 0 0,.string ⟨#[]⟩,.slice none 0 0] 48);have hM9:=hbk.size;replace hbk:=bt hbk hst;generalize wn1.alloc (.cells #[.int .i64 0,.int .u64 0,.int .u64 0,.int .u64 0,.string ⟨#[]⟩,.string ⟨#[]⟩,.string ⟨#[]⟩,.string ⟨#[]⟩,.int .i64 0,.slice none 0 0,.string ⟨#[]⟩,.slice none 0 0] 48)=wn5 at *;clear hst
      (try simp only[Act.put,List.getElem_toArray,List.getElem_cons_zero,List.getElem_cons_succ,List.setIfInBounds_toArray,List.set_cons_zero,List.set_cons_succ])
      refine wpAnyH_ready (rs:=[5]) (by kernel_rfl) (by simp) ?_;refine AllReadyH.cons rfl (fun K hK=>?_) AllReadyH.nil
      go_simp
      (go_at_call 20;(with_reducible refine(KL.out _ (bt HC0.out.gg hbk)).mono ?_);rintro e5 wn6 ⟨v5,rfl,ho5,hst⟩)
      refine hK.out _ _ (KSA.out _ (bt hbk hst)) (fun hHeld=>?_);clear hK K;obtain⟨a5,c5,rfl⟩:=jb4 ho5;replace ho5:=jc3 ho5 hbk.size;replace L9:=blkP L9 hst;replace hbk:=bt hbk hst;clear hst
      (try simp only[Act.put,List.getElem_toArray,List.getElem_cons_zero,List.getElem_cons_succ,List.setIfInBounds_toArray,List.set_cons_zero,List.set_cons_succ])
      refine wpAnyH_take (i:=8) (v:=?_) rfl (by kernel_rfl) (by kernel_rfl) (by kernel_rfl) (fun _ _ _ h=>h) (Or.inl ⟨by rfl,?_⟩) (by assumption) ?_
      rotate_left 1
      · (intro w hSw;(try dsimp only at hSw);go_simp;(try with_reducible rfl))
      (try simp only[Act.put,List.getElem_toArray,List.getElem_cons_zero,List.getElem_cons_succ,List.setIfInBounds_toArray,List.set_cons_zero,List.set_cons_succ])
      refine wpAnyH_ready (rs:=[10]) (by kernel_rfl) (by simp) ?_;refine AllReadyH.cons rfl (fun K hK=>?_) AllReadyH.nil;obtain⟨k0,k0'⟩:=jb0 L9 0 _ rfl;obtain⟨k1,k1'⟩:=jb0 L9 1 _ rfl;obtain⟨k2,k2'⟩:=jb0 L9 2 _ rfl;obtain⟨k3,k3'⟩:=jb0 L9 3 _ rfl;obtain⟨k4,k4'⟩:=jb0 L9 4 _ rfl;obtain⟨k5,k5'⟩:=jb0 L9 5 _ rfl;obtain⟨k6,k6'⟩:=jb0 L9 6 _ rfl;obtain⟨k7,k7'⟩:=jb0 L9 7 _ rfl;obtain⟨k8,k8'⟩:=jb0 L9 8 _ rfl;obtain⟨k9,k9'⟩:=jb0 L9 9 _ rfl;obtain⟨k10,k10'⟩:=jb0 L9 10 _ rfl;obtain⟨k11,k11'⟩:=jb0 L9 11 _ rfl
      go_simp
      have hst:Below W.heap.size W (st12 wn6 wn1.heap.size (.int .i64 s.first.fl.toNat) (.int .u64 s.first.po) (.int .u64 s.first.se) (.int .u64 s.first.nu) (.string s.first.la) (.string s.first.bo) (.string ⟨#[]⟩) (.string s.b.vt) (.int .i64 s.b.vs) (.slice a5 nn c5) (.string s.setup) (.slice none 0 0)):=by
       unfold st12
       iterate 12 refine Below.setCell ?_ hM9 _
       exact hbk
      refine hK.out _ _ (KSA.out _ hst) (fun hHeld=>?_);clear hK K k0 k0' k1 k1' k2 k2' k3 k3' k4 k4' k5 k5' k6 k6' k7 k7' k8 k8' k9 k9' k10 k10' k11 k11';replace ho5:(st12 wn6 wn1.heap.size (.int .i64 s.first.fl.toNat) (.int .u64 s.first.po) (.int .u64 s.first.se) (.int .u64 s.first.nu) (.string s.first.la) (.string s.first.bo) (.string ⟨#[]⟩) (.string s.b.vt) (.int .i64 s.b.vs) (.slice a5 nn c5) (.string s.setup) (.slice none 0 0)).ownsRow W.heap.size 42 3 (.slice a5 nn c5) nn (ntcells s.b.ns):=jb5 ho5 fun q hq=>jm9 _ _ _ _ _ _ _ _ _ _ _ _ _ _ q (fun e=>jd0 ho5 L9 (by decide) (by rw[hq,e]))
      replace L9:=kj4 L9 (.int .i64 s.first.fl.toNat) (.int .u64 s.first.po) (.int .u64 s.first.se) (.int .u64 s.first.nu) (.string s.first.la) (.string s.first.bo) (.string ⟨#[]⟩) (.string s.b.vt) (.int .i64 s.b.vs) (.slice a5 nn c5) (.string s.setup) (.slice none 0 0);replace hbk:=hst;clear hst
      (try simp only[Act.put,List.getElem_toArray,List.getElem_cons_zero,List.getElem_cons_succ,List.setIfInBounds_toArray,List.set_cons_zero,List.set_cons_succ])
      refine wpAnyH_done (by kernel_rfl) ?_ _
      go_wp2_with fail
      go_meet
      exact⟨wn1.heap.size,a5,c5,rfl,hM9,hbk,L9,ho5⟩
  · go_simp
    refine hK.out _ _ (KSA.out _ (bal hbk _)) (fun hHeld=>?_);clear hK K;have hst:=bal (Below.refl Wd.heap.size Wd) (.cells #[.int .i64 0,.int .u64 0,.int .u64 0,.int .u64 0,.string ⟨#[]⟩,.string ⟨#[]⟩,.string ⟨#[]⟩,.string ⟨#[]⟩,.int .i64 0,.slice none 0 0,.string ⟨#[]⟩,.slice none 0 0] 48);have L9:=heap_alloc_new Wd (.cells #[.int .i64 0,.int .u64 0,.int .u64 0,.int .u64 0,.string ⟨#[]⟩,.string ⟨#[]⟩,.string ⟨#[]⟩,.string ⟨#[]⟩,.int .i64 0,.slice none 0 0,.string ⟨#[]⟩,.slice none 0 0] 48);have hM9:=hbk.size;replace hbk:=bt hbk hst;generalize Wd.alloc (.cells #[.int .i64 0,.int .u64 0,.int .u64 0,.int .u64 0,.string ⟨#[]⟩,.string ⟨#[]⟩,.string ⟨#[]⟩,.string ⟨#[]⟩,.int .i64 0,.slice none 0 0,.string ⟨#[]⟩,.slice none 0 0] 48)=wn8 at *;clear hst
    (try simp only[Act.put,List.getElem_toArray,List.getElem_cons_zero,List.getElem_cons_succ,List.setIfInBounds_toArray,List.set_cons_zero,List.set_cons_succ])
    refine wpAnyH_ready (rs:=[2]) (by kernel_rfl) (by simp) ?_;refine AllReadyH.cons rfl (fun K hK=>?_) AllReadyH.nil
    go_simp
    (go_at_call 13;(with_reducible refine(KF.out _).mono ?_);rintro e2 wn9 ⟨rfl,hst⟩)
    refine hK.out _ _ (KSA.out _ (bt hbk hst)) (fun hHeld=>?_);clear hK K;replace L9:=blkP L9 hst;replace hbk:=bt hbk hst;clear hst
    (try simp only[Act.put,List.getElem_toArray,List.getElem_cons_zero,List.getElem_cons_succ,List.setIfInBounds_toArray,List.set_cons_zero,List.set_cons_succ])
    refine wpAnyH_ready (rs:=[5]) (by kernel_rfl) (by simp) ?_;refine AllReadyH.cons rfl (fun K hK=>?_) AllReadyH.nil
    go_simp
    (go_at_call 20;(with_reducible refine(KL.out _ (bt HC0.out.gg hbk)).mono ?_);rintro e5 wn10 ⟨v5,rfl,ho5,hst⟩)
    refine hK.out _ _ (KSA.out _ (bt hbk hst)) (fun hHeld=>?_);clear hK K;obtain⟨a5,c5,rfl⟩:=jb4 ho5;replace ho5:=jc3 ho5 hbk.size;replace L9:=blkP L9 hst;replace hbk:=bt hbk hst;clear hst
    (try simp only[Act.put,List.getElem_toArray,List.getElem_cons_zero,List.getElem_cons_succ,List.setIfInBounds_toArray,List.set_cons_zero,List.set_cons_succ])
    refine wpAnyH_take (i:=8) (v:=?_) rfl (by kernel_rfl) (by kernel_rfl) (by kernel_rfl) (fun _ _ _ h=>h) (Or.inl ⟨by rfl,?_⟩) (by assumption) ?_
    rotate_left 1
    · (intro w hSw;(try dsimp only at hSw);go_simp;(try with_reducible rfl))
    (try simp only[Act.put,List.getElem_toArray,List.getElem_cons_zero,List.getElem_cons_succ,List.setIfInBounds_toArray,List.set_cons_zero,List.set_cons_succ])
    refine wpAnyH_ready (rs:=[10]) (by kernel_rfl) (by simp) ?_;refine AllReadyH.cons rfl (fun K hK=>?_) AllReadyH.nil;obtain⟨k0,k0'⟩:=jb0 L9 0 _ rfl;obtain⟨k1,k1'⟩:=jb0 L9 1 _ rfl;obtain⟨k2,k2'⟩:=jb0 L9 2 _ rfl;obtain⟨k3,k3'⟩:=jb0 L9 3 _ rfl;obtain⟨k4,k4'⟩:=jb0 L9 4 _ rfl;obtain⟨k5,k5'⟩:=jb0 L9 5 _ rfl;obtain⟨k6,k6'⟩:=jb0 L9 6 _ rfl;obtain⟨k7,k7'⟩:=jb0 L9 7 _ rfl;obtain⟨k8,k8'⟩:=jb0 L9 8 _ rfl;obtain⟨k9,k9'⟩:=jb0 L9 9 _ rfl;obtain⟨k10,k10'⟩:=jb0 L9 10 _ rfl;obtain⟨k11,k11'⟩:=jb0 L9 11 _ rfl
    go_simp
    have hst:Below W.heap.size W (st12 wn10 Wd.heap.size (.int .i64 s.first.fl.toNat) (.int .u64 s.first.po) (.int .u64 s.first.se) (.int .u64 s.first.nu) (.string s.first.la) (.string s.first.bo) (.string ⟨#[]⟩) (.string s.b.vt) (.int .i64 s.b.vs) (.slice a5 nn c5) (.string s.setup) (.slice none 0 0)):=by
     unfold st12
     iterate 12 refine Below.setCell ?_ hM9 _
     exact hbk
    refine hK.out _ _ (KSA.out _ hst) (fun hHeld=>?_);clear hK K k0 k0' k1 k1' k2 k2' k3 k3' k4 k4' k5 k5' k6 k6' k7 k7' k8 k8' k9 k9' k10 k10' k11 k11';replace ho5:(st12 wn10 Wd.heap.size (.int .i64 s.first.fl.toNat) (.int .u64 s.first.po) (.int .u64 s.first.se) (.int .u64 s.first.nu) (.string s.first.la) (.string s.first.bo) (.string ⟨#[]⟩) (.string s.b.vt) (.int .i64 s.b.vs) (.slice a5 nn c5) (.string s.setup) (.slice none 0 0)).ownsRow W.heap.size 42 3 (.slice a5 nn c5) nn (ntcells s.b.ns):=jb5 ho5 fun q hq=>jm9 _ _ _ _ _ _ _ _ _ _ _ _ _ _ q (fun e=>jd0 ho5 L9 (by decide) (by rw[hq,e]))
    replace L9:=kj4 L9 (.int .i64 s.first.fl.toNat) (.int .u64 s.first.po) (.int .u64 s.first.se) (.int .u64 s.first.nu) (.string s.first.la) (.string s.first.bo) (.string ⟨#[]⟩) (.string s.b.vt) (.int .i64 s.b.vs) (.slice a5 nn c5) (.string s.setup) (.slice none 0 0);replace hbk:=hst;clear hst
    (try simp only[Act.put,List.getElem_toArray,List.getElem_cons_zero,List.getElem_cons_succ,List.setIfInBounds_toArray,List.set_cons_zero,List.set_cons_succ])
    refine wpAnyH_done (by kernel_rfl) ?_ _
    go_wp2_with fail
    go_meet
    exact⟨Wd.heap.size,a5,c5,rfl,hM9,hbk,L9,ho5⟩
 case rest=>
  obtain⟨gb,a',c',rfl,hgb,hbx,hM,hon⟩:=hcut;have C:=HC0.out.bel hbx;have x10:=C.cell 10 _ rfl;have hgz:gb<wc.heap.size:=(Array.getElem?_eq_some_iff.1 hM).1;have HNB:Hid (∀q,(Value.slice a' nn c').ownBlock=some q→W.heap.size≤q∧q<wc.heap.size):=Lib.hid (jb7 hon);have HM:=Lib.hid hM;have HON:=Lib.hid hon;have HBX:=Lib.hid hbx;clear hM hon hbx C
  go_wp2_with fail
  clear x10
  go_loopw [18] (fun iv wr=>∃(k:Nat) (vs':Value),iv=.int .i64 (k:Int)∧k≤n∧Hid (wr.heap[gb]?=some (.cells (roC (.slice a' nn c') vs' s) 48 (0,0)))∧Hid (wr.ownsRow wc.heap.size 40 6 vs' k (rgcells (s.sound.take k)))∧Hid (wr.ownsRow W.heap.size 42 3 (.slice a' nn c') nn (ntcells s.b.ns))∧Hid (Below W.heap.size W wr)∧wc.heap.size≤wr.heap.size) (fun iv _=>n-(intOf iv).toNat)
  case atStart=>exact⟨0,.slice none 0 0,rfl,Nat.zero_le _,HM,Lib.hid (World.ownsRow_nil _ _ _ _),HON,HBX,Nat.le_refl _⟩
  case round=>
   clear HM HON HBX;obtain⟨k,vs',rfl,hk,HM,HO,HON,HBE,hwz⟩:=hrel;obtain⟨av9,cv9,hu9⟩:=jb4 HO.out;subst hu9;have C:=HC0.out.bel HBE.out;by_cases hlt:k<n
   · obtain⟨p,hp⟩:=jb6 s.sound k (by rw[←HN.out];exact hlt)
     obtain⟨gg,og,rfl,d0,d1,d2,d3,d4,d5⟩:=g_at HCV.out k p hp;replace d0:=kc C.gg d0;replace d1:=kc C.gg d1;replace d2:=kc C.gg d2;replace d3:=kc C.gg d3;replace d4:=kc C.gg d4;replace d5:=kc C.gg d5;have kg:=fun w=>qt5 p w (HG2.out p (List.mem_of_getElem? hp))
     unfold gV at kg;have hst:rgcells (s.sound.take (k+1))=rgcells (s.sound.take k)++(#[.int .i64 p.fl.toNat,.int .u64 p.po,.int .u64 p.se,.int .u64 p.nu,.string p.la,.string p.bo]:Array Value).toList:=by
      rw[List.take_add_one,hp,Option.toList_some,jr9]
     obtain⟨fl,po,se,nu,la,bo⟩:=p;simp only at d0 d1 d2 d3 d4 d5 hst kg;generalize (fl.toNat:Int)=f at *;obtain⟨WA,hWA⟩:∃WA,WA=wr.alloc (.cells #[.int .u8 f,.int .u64 po,.int .u32 se,.int .u32 nu,.string la,.string bo] 27):=⟨_,rfl⟩;have hbA:Below wr.heap.size wr WA:=by rw[hWA];exact bal (Below.refl _ _) _
     have hPA:WA.heap[wr.heap.size]?=some (.cells #[.int .u8 f,.int .u64 po,.int .u32 se,.int .u32 nu,.string la,.string bo] 27 (0,0)):=by rw[hWA];exact heap_alloc_new _ _
     obtain⟨p0,p1,p2,p3,p4,p5⟩:=gvL hPA;have hMA:=blkP HM.out hbA;obtain⟨m11,m11'⟩:=jb0 hMA 11 _ rfl;have hoA:=jb2 HO.out hbA;have hnA:=jb2 HON.out hbA;have hwA:=Nat.le_trans hwz hbA.size;have hbe:=bt HBE.out hbA;have m0:(0:Int)≤(k:Int):=by omega
     have m1:(k:Int)<(n:Int):=by omega
     have hw1:IntKind.i64.wrap ((k:Int)+1)=(k:Int)+1:=wi64 _ (by omega) (by omega);have z1:k<70368744177664:=by omega
     have z2:(k+1)*64≤140737488355328:=by omega
     have HST:=Lib.hid hst;have HMA:=Lib.hid hMA;have HOA:=Lib.hid hoA;have HNA:=Lib.hid hnA;have HBEA:=Lib.hid hbe;have KG:=Lib.hid kg;have HZ1:=Lib.hid z1;have HZ2:=Lib.hid z2;clear hp hst hbA hPA hMA hoA hnA hbe kg z1 z2 C
     go_wp2_with fail
     rw[←hWA];clear hWA
     go_region_law (first
      | (go_simp;go_at_call 13;(with_reducible refine(KG.out _).mono ?_);rintro e wd ⟨rfl,hst⟩;have hbd:Below WA.heap.size WA wd:=(by first|exact bt (Below.refl _ _).drew hst|exact hst|exact bt (bdn (Below.refl _ _) _) hst);have hMd:=blkP HMA.out hbd;obtain⟨m11d,m11d'⟩:=jb0 hMd 11 _ rfl;have hod:=jb2 HOA.out hbd;have hwd:=Nat.le_trans hwA hbd.size;have m11e:=kc (bal (Below.refl wd.heap.size wd) (.cells #[.int .i64 f,.int .u64 po,.int .u64 se,.int .u64 nu,.string la,.string bo] 40)) m11d)
      | (refine kr5 rfl _ _ 46 40 rfl Tryz.underlying46 (.agg #[.int .i64 0,.int .u64 0,.int .u64 0,.int .u64 0,.string ⟨#[]⟩,.string ⟨#[]⟩]) 6 64 vb6 rfl (by decide) wd wc.heap.size (.slice av9 k cv9) k (rgcells (s.sound.take k)) rfl hod #[.int .i64 f,.int .u64 po,.int .u64 se,.int .u64 nu,.string la,.string bo] rfl (by simp[Value.oneCell']) rfl HZ1.out HZ2.out hwd ?_;intro v' we howe hbe;have hMe:=(hbe.block gb hgz).trans hMd;obtain⟨m11f,m11f'⟩:=jb0 hMe 11 _ rfl;obtain⟨ae,ce,rfl⟩:=jb4 howe))
     all_goals
      have hgW:W.heap.size≤wc.heap.size:=by omega
      have h11:=Go.Lib.heap_setCell_same (i:=11) hMe (.slice ae (k+1) ce);have hB9:Below W.heap.size W (we.setCell ⟨gb,11,none⟩ (.slice ae (k+1) ce)):=((bt HBEA.out hbd).trans (hbe.mono hgW)).setCell hgb _;have ho9:(we.setCell ⟨gb,11,none⟩ (.slice ae (k+1) ce)).ownsRow wc.heap.size 40 6 (.slice ae (k+1) ce) (k+1) (rgcells (s.sound.take (k+1))):=by
       rw[HST.out];exact jb5 howe fun q hq=>Below.heap_setCell _ _ _ q (by have:=(jb7 howe q hq).1;simp;omega)
      have hn9:(we.setCell ⟨gb,11,none⟩ (.slice ae (k+1) ce)).ownsRow W.heap.size 42 3 (.slice a' nn c') nn (ntcells s.b.ns):=by
       have hnd:=jb2 HNA.out hbd;have hne:we.ownsRow W.heap.size 42 3 (.slice a' nn c') nn (ntcells s.b.ns):=jb5 hnd fun q hq=>hbe.block q (HNB.out q hq).2
       exact jb5 hne fun q hq=>Below.heap_setCell _ _ _ q (by intro e;simp only at e;exact jd0 hne hMe (by decide) (by rw[hq,e]))
      have hwe:wc.heap.size≤(we.setCell ⟨gb,11,none⟩ (.slice ae (k+1) ce)).heap.size:=by
       rw[World.size_setCell];exact Nat.le_trans hwd hbe.size
      have HM9:Hid ((we.setCell ⟨gb,11,none⟩ (.slice ae (k+1) ce)).heap[gb]?=some (.cells (roC (.slice a' nn c') (.slice ae (k+1) ce) s) 48 (0,0))):=Lib.hid (by rw[h11];simp);have HO9:=Lib.hid ho9;have HN9:=Lib.hid hn9;have HB9:=Lib.hid hB9;clear h11 ho9 hn9 hB9
      go_wp2_with fail
      go_roundw
      case rel=>exact⟨k+1,_,by go_num,by omega,HM9,HO9,HN9,HB9,hwe⟩
      case measure=>simp[intOf];omega
   · have hkn:k=n:=by omega
     have ho:=HO.out;rw[hkn,List.take_of_length_le (by rw[←HN.out];exact Nat.le_refl _)]at ho;have m1:¬(k:Int)<(n:Int):=by omega
     have hM:=HM.out;rw[hkn]at hM;obtain⟨k0,_⟩:=jb0 hM 0 _ rfl;obtain⟨q0,q0'⟩:=C.ret 0 _ rfl;obtain⟨k1,_⟩:=jb0 hM 1 _ rfl;obtain⟨q1,q1'⟩:=C.ret 1 _ rfl;obtain⟨k2,_⟩:=jb0 hM 2 _ rfl;obtain⟨q2,q2'⟩:=C.ret 2 _ rfl;obtain⟨k3,_⟩:=jb0 hM 3 _ rfl;obtain⟨q3,q3'⟩:=C.ret 3 _ rfl;obtain⟨k4,_⟩:=jb0 hM 4 _ rfl;obtain⟨q4,q4'⟩:=C.ret 4 _ rfl;obtain⟨k5,_⟩:=jb0 hM 5 _ rfl;obtain⟨q5,q5'⟩:=C.ret 5 _ rfl;obtain⟨k6,_⟩:=jb0 hM 6 _ rfl;obtain⟨q6,q6'⟩:=C.ret 6 _ rfl;obtain⟨k7,_⟩:=jb0 hM 7 _ rfl;obtain⟨q7,q7'⟩:=C.ret 7 _ rfl;obtain⟨k8,_⟩:=jb0 hM 8 _ rfl;obtain⟨q8,q8'⟩:=C.ret 8 _ rfl;obtain⟨k9,_⟩:=jb0 hM 9 _ rfl;obtain⟨q9,q9'⟩:=C.ret 9 _ rfl;obtain⟨k10,_⟩:=jb0 hM 10 _ rfl;obtain⟨q10,q10'⟩:=C.ret 10 _ rfl;obtain⟨k11,_⟩:=jb0 hM 11 _ rfl;obtain⟨q11,q11'⟩:=C.ret 11 _ rfl;have hgn1:¬gb=w.heap.size+1:=by have:=HWS.out;omega
     have hgn2:¬w.heap.size+1=gb:=by have:=HWS.out;omega
     have HO9:=Lib.hid ho;have HGG:=Lib.hid C.gg;have hkn2:=hkn;subst hkn2;clear hM ho C
     go_wp2_with fail
     refine bodyPost_ret (v:=.agg #[.int .i64 s.first.fl.toNat,.int .u64 s.first.po,.int .u64 s.first.se,.int .u64 s.first.nu,.string s.first.la,.string s.first.bo,.string ⟨#[]⟩,.string s.b.vt,.int .i64 s.b.vs,.slice a' nn c',.string s.setup,.slice av9 k cv9]) (by simp[results,Tryz.results6,go_sem,q0,q0',q1,q1',q2,q2',q3,q3',q4,q4',q5,q5',q6,q6',q7,q7',q8,q8',q9,q9',q10,q10',q11,q11']) rfl ?_;refine⟨.slice a' nn c',.slice av9 k cv9,rfl,?_,?_,st12_bel HGG.out (Nat.le_succ _)  _ _ _ _ _ _ _ _ _ _ _ _⟩
     · rw[←HNN.out]
       refine jc3 (jb5 HON.out fun q hq=>jm9 _ _  _ _ _ _ _ _ _ _ _ _ _ _ q ?_) (by have:=HWS.out;omega);have:=(jb7 HON.out q hq).1;have:=HWS.out;omega
     · rw[←HN.out]
       refine jc3 (jb5 HO9.out fun q hq=>jm9 _ _  _ _ _ _ _ _ _ _ _ _ _ _ q ?_) (by have:=HWS.out;omega);have:=(jb7 HO9.out q hq).1;have:=HWS.out;omega
end Go.Proofs.YtagjkmkmphamoaaGreatDoor
