/- Qv, Qw, Qx, Qy, Qz -/
import Derived.Deep.RegionHeld3
import Derived.Test.YtnbglcaeekppjaaGreatDoorEd
import Derived.Test.YtnbglcaeekppjaaGreatDoorEc
import Derived.Test.YtnbglcaeekppjaaGreatDoorEb
import Derived.Test.YtnbglcaeekppjaaGreatDoorEa
import Derived.Test.YtnbglcaeekppjaaGreatDoorMGC
import Derived.Test.YtnbglcaeekppjaaGreatDoorMGA
import Derived.Test.YtnbglcaeekppjaaGreatDoorMFe
import Derived.Test.YtnbglcaeekppjaaGreatDoorMAy
import Derived.Test.YtnbglcaeekppjaaGreatDoorMGB
import Derived.Test.YtnbglcaeekppjaaGreatDoorMCy
namespace Go.Proofs.YtnbglcaeekppjaaGreatDoor
open Go.RowKit
set_option linter.unusedVariables false
set_option linter.unusedSimpArgs false

abbrev roZ : Array Value:=#[.int .i64 0,.int .u64 0,.int .u64 0,.int .u64 0,.string ⟨#[]⟩,.string ⟨#[]⟩,.string ⟨#[]⟩,.string ⟨#[]⟩,.int .i64 0,.slice none 0 0,.string ⟨#[]⟩,.slice none 0 0]
/-- a stream as the document has it. -/
abbrev roC (vn vs : Value) (s : OS) : Array Value:=#[.int .i64 s.first.fl.toNat,.int .u64 s.first.po,.int .u64 s.first.se,.int .u64 s.first.nu,.string s.first.la,.string s.first.bo,.string ⟨#[]⟩,.string s.b.vt,.int .i64 s.b.vs,vn,.string s.setup,vs]
/-- the stream's box and the stream that is handed back. -/
structure QS (w : World) (cs : Array Value) (wr : World) : Prop where
  gg : Below w.heap.size w wr
  bx : wr.heap[w.heap.size]? = some (.cells cs 36 (0,0))
  rt : wr.heap[w.heap.size + 1]? = some (.cells roZ 48 (0,0))
theorem QS.bel {w wr : World} {cs : Array Value} (h : QS w cs wr) {w' : World} (hb : Below wr.heap.size wr w') : QS w cs w':=⟨bt h.gg hb,blkP h.bx hb,blkP h.rt hb⟩
theorem QS.cell {w wr : World} {cs : Array Value} (h : QS w cs wr) (i : Nat) (v : Value) (hi : cs[i]? = some v) : wr.cell? ⟨w.heap.size,i,none⟩ = some v:=(live_of h.bx i v hi).1
theorem QS.ret {w wr : World} {cs : Array Value} (h : QS w cs wr) (i : Nat) (v : Value) (hi : roZ[i]? = some v) : wr.cell? ⟨w.heap.size + 1,i,none⟩ = some v ∧ wr.frozen? ⟨w.heap.size + 1,i,none⟩ = false:=live_of h.rt i v hi
theorem qs_start (w : World) (cs : Array Value) : ∃ W,W = (w.alloc (.cells cs 36)).alloc (.cells roZ 48) ∧ QS w cs W:=by
  have hs1 : (w.alloc (.cells cs 36)).heap.size = w.heap.size + 1:=World.size_alloc _ _
  refine ⟨_,rfl,bal (bal (Below.refl _ _) _) _,?_,?_⟩
  · exact (heap_alloc_old _ _ (by rw [hs1];omega)).trans (heap_alloc_new _ _)
  · rw [← hs1];exact heap_alloc_new _ _
abbrev st12 (wr : World) (b : Nat) (x0 x1 x2 x3 x4 x5 x6 x7 x8 x9 x10 x11 : Value) : World:=(((((((((((wr.setCell ⟨b,0,none⟩ x0).setCell ⟨b,1,none⟩ x1).setCell ⟨b,2,none⟩ x2).setCell ⟨b,3,none⟩ x3).setCell ⟨b,4,none⟩ x4).setCell ⟨b,5,none⟩ x5).setCell ⟨b,6,none⟩ x6).setCell ⟨b,7,none⟩ x7).setCell ⟨b,8,none⟩ x8).setCell ⟨b,9,none⟩ x9).setCell ⟨b,10,none⟩ x10).setCell ⟨b,11,none⟩ x11
theorem st12_bel {w wr : World} {b : Nat} (h : Below w.heap.size w wr) (hb : w.heap.size ≤ b) (x0 x1 x2 x3 x4 x5 x6 x7 x8 x9 x10 x11 : Value) : Below w.heap.size w (st12 wr b x0 x1 x2 x3 x4 x5 x6 x7 x8 x9 x10 x11):=by
  unfold st12
  iterate 12 refine Below.setCell ?_ hb _
  exact h
theorem st12_other (wr : World) (b : Nat) (x0 x1 x2 x3 x4 x5 x6 x7 x8 x9 x10 x11 : Value) (j : Nat) (hj : j ≠ b) : (st12 wr b x0 x1 x2 x3 x4 x5 x6 x7 x8 x9 x10 x11).heap[j]? = wr.heap[j]?:=by
  unfold st12
  iterate 12 rw [Below.heap_setCell _ _ _ j (by simpa using hj)]
theorem st12_heap {wr : World} {b : Nat} {t : TypeId} (h : wr.heap[b]? = some (.cells roZ t (0,0))) (x0 x1 x2 x3 x4 x5 x6 x7 x8 x9 x10 x11 : Value) : (st12 wr b x0 x1 x2 x3 x4 x5 x6 x7 x8 x9 x10 x11).heap[b]? = some (.cells #[x0,x1,x2,x3,x4,x5,x6,x7,x8,x9,x10,x11] t (0,0)):=by
  have h0:=Go.Lib.heap_setCell_same (i:=0) h x0
  have h1:=Go.Lib.heap_setCell_same (i:=1) h0 x1
  have h2:=Go.Lib.heap_setCell_same (i:=2) h1 x2
  have h3:=Go.Lib.heap_setCell_same (i:=3) h2 x3
  have h4:=Go.Lib.heap_setCell_same (i:=4) h3 x4
  have h5:=Go.Lib.heap_setCell_same (i:=5) h4 x5
  have h6:=Go.Lib.heap_setCell_same (i:=6) h5 x6
  have h7:=Go.Lib.heap_setCell_same (i:=7) h6 x7
  have h8:=Go.Lib.heap_setCell_same (i:=8) h7 x8
  have h9:=Go.Lib.heap_setCell_same (i:=9) h8 x9
  have h10:=Go.Lib.heap_setCell_same (i:=10) h9 x10
  have h11:=Go.Lib.heap_setCell_same (i:=11) h10 x11
  unfold st12
  rw [h11]
  simp
/-- what Of answers. -/
def OOfPost (s : OS) (w : World) (e : Ending) (w' : World) : Prop:=∃ vn vs,e = .returned (.agg (roC vn vs s)) ∧ w'.ownsRow w.heap.size 42 3 vn s.b.ns.length (ntcells s.b.ns) ∧ w'.ownsRow w.heap.size 40 6 vs s.sound.length (rgcells s.sound) ∧ Below w.heap.size w w'
theorem infoRG : (Tryz.prog.info? 40).map (fun i=>(i.zero,i.size,i.bytes)) = some (some (.agg #[.int .i64 0,.int .u64 0,.int .u64 0,.int .u64 0,.string ⟨#[]⟩,.string ⟨#[]⟩]),6,64):=by kernel_rfl
set_option maxRecDepth 100000 in
set_option maxHeartbeats 16000000 in
theorem oof_any (vn vs : Value) (s : OS) (w : World) (hrow : OsRow w vn vs s) (hok : smOS s) (hnl : s.b.ns.length ≤ 1000000) (hg1 : okG s.first) (hg2 : ∀ p ∈ s.sound,okG p) :
    Calls Tryz.prog 8 #[.agg #[.int .u8 s.first.fl.toNat,.int .u64 s.first.po,.int .u32 s.first.se,.int .u32 s.first.nu,.string s.first.la,.string s.first.bo,.string s.b.vt,.int .i64 s.b.vs,vn,.string s.setup,vs]] w (OOfPost s w):=by
  obtain ⟨av,cap,hvs,hcv⟩:=hrow.2
  obtain ⟨n,hn'⟩ : ∃ n,n = s.sound.length:=⟨_,rfl⟩
  rw [← hn'] at hvs
  have hsl:=hok.2.2.2.1
  rw [← hn'] at hsl
  subst hvs
  obtain ⟨nn,hnn⟩ : ∃ nn,nn = s.b.ns.length:=⟨_,rfl⟩
  have kf:=fun w=>gof_any s.first w hg1
  unfold gV at kf
  have kl : ∀ w',Below w.heap.size w w' → Calls Tryz.prog 24 #[.agg #[.string s.b.vt,.int .i64 s.b.vs,vn]] w' fun e w''=>∃ v',e = .returned (.agg #[.string ⟨#[]⟩,.string s.b.vt,.int .i64 s.b.vs,v']) ∧ w''.ownsRow w'.heap.size 42 3 v' s.b.ns.length (ntcells s.b.ns) ∧ Below w'.heap.size w' w'':=fun w' hb=>lof_any vn s.b w' (hrow.1.keep hb) hok.1 hnl
  rw [← hnn] at kl
  obtain ⟨W,hW,C⟩:=qs_start w (osC vn (.slice av n cap) s)
  have hWs : W.heap.size = w.heap.size + 2:=by rw [hW,World.size_alloc,World.size_alloc]
  have KSA : Hid (∀ wz,Below W.heap.size W wz → wz.cell? ⟨w.heap.size,0,none⟩ = some (.int .u8 s.first.fl.toNat) ∧ wz.cell? ⟨w.heap.size,1,none⟩ = some (.int .u64 s.first.po) ∧ wz.cell? ⟨w.heap.size,2,none⟩ = some (.int .u32 s.first.se) ∧ wz.cell? ⟨w.heap.size,3,none⟩ = some (.int .u32 s.first.nu) ∧ wz.cell? ⟨w.heap.size,4,none⟩ = some (.string s.first.la) ∧ wz.cell? ⟨w.heap.size,5,none⟩ = some (.string s.first.bo) ∧ wz.cell? ⟨w.heap.size,6,none⟩ = some (.string s.b.vt) ∧ wz.cell? ⟨w.heap.size,7,none⟩ = some (.int .i64 s.b.vs) ∧ wz.cell? ⟨w.heap.size,8,none⟩ = some (vn) ∧ wz.cell? ⟨w.heap.size,9,none⟩ = some (.string s.setup)):=Lib.hid fun wz hb=>⟨(C.bel hb).cell 0 _ rfl,(C.bel hb).cell 1 _ rfl,(C.bel hb).cell 2 _ rfl,(C.bel hb).cell 3 _ rfl,(C.bel hb).cell 4 _ rfl,(C.bel hb).cell 5 _ rfl,(C.bel hb).cell 6 _ rfl,(C.bel hb).cell 7 _ rfl,(C.bel hb).cell 8 _ rfl,(C.bel hb).cell 9 _ rfl⟩
  have HCV:=Lib.hid hcv
  have HN:=Lib.hid hn'
  have HNN:=Lib.hid hnn
  have KF:=Lib.hid kf
  have KL:=Lib.hid kl
  have HC0:=Lib.hid C
  have HWS:=Lib.hid hWs
  have HG2:=Lib.hid hg2
  clear hcv hn' hnn kf kl C hWs hg2
  clear hrow hok hg1
  go_enter Tryz.func8,Tryz.ntmps8
  go_upto_region 1 with fail
  rw [← hW]
  clear hW
  go_cut [3] from 6 (fun s3 wx=>∃ (gb : Nat) (a' : Option Addr) (c' : Nat),s3 = .pointer (some ⟨gb,0,none⟩) ∧ W.heap.size ≤ gb ∧ Below W.heap.size W wx ∧ wx.heap[gb]? = some (.cells (roC (.slice a' nn c') (.slice none 0 0) s) 48 (0,0)) ∧ wx.ownsRow W.heap.size 42 3 (.slice a' nn c') nn (ntcells s.b.ns))
  case first=>
    refine wp_region_held_drew (S:=fun w'=>w'.cell? ⟨w.heap.size,0,none⟩ = some (.int .u8 s.first.fl.toNat) ∧ w'.cell? ⟨w.heap.size,1,none⟩ = some (.int .u64 s.first.po) ∧ w'.cell? ⟨w.heap.size,2,none⟩ = some (.int .u32 s.first.se) ∧ w'.cell? ⟨w.heap.size,3,none⟩ = some (.int .u32 s.first.nu) ∧ w'.cell? ⟨w.heap.size,4,none⟩ = some (.string s.first.la) ∧ w'.cell? ⟨w.heap.size,5,none⟩ = some (.string s.first.bo) ∧ w'.cell? ⟨w.heap.size,6,none⟩ = some (.string s.b.vt) ∧ w'.cell? ⟨w.heap.size,7,none⟩ = some (.int .i64 s.b.vs) ∧ w'.cell? ⟨w.heap.size,8,none⟩ = some (vn) ∧ w'.cell? ⟨w.heap.size,9,none⟩ = some (.string s.setup)) (by kernel_rfl) (KSA.out _ (Below.refl _ _).drew) (fun hHeld=>?_)
    have hbk : Below W.heap.size W W.drew:=(Below.refl _ _).drew
    generalize W.drew = Wd at *
    (try simp only [Act.put,List.getElem_toArray,List.getElem_cons_zero,List.getElem_cons_succ,List.setIfInBounds_toArray,List.set_cons_zero,List.set_cons_succ])
    refine wpAnyH_take (i:=0) (v:=?_) rfl (by kernel_rfl) (by kernel_rfl) (by kernel_rfl) (fun _ _ _ h=>h) (Or.inl ⟨by rfl,?_⟩) (by assumption) ?_
    rotate_left 1
    · (intro w hSw;(try dsimp only at hSw);go_simp;(try with_reducible rfl))
    (try simp only [Act.put,List.getElem_toArray,List.getElem_cons_zero,List.getElem_cons_succ,List.setIfInBounds_toArray,List.set_cons_zero,List.set_cons_succ])
    refine wpAnyH_take (i:=1) (v:=?_) rfl (by kernel_rfl) (by kernel_rfl) (by kernel_rfl) (fun _ _ _ h=>h) (Or.inl ⟨by rfl,?_⟩) (by assumption) ?_
    rotate_left 1
    · (intro w hSw;(try dsimp only at hSw);go_simp;(try with_reducible rfl))
    (try simp only [Act.put,List.getElem_toArray,List.getElem_cons_zero,List.getElem_cons_succ,List.setIfInBounds_toArray,List.set_cons_zero,List.set_cons_succ])
    refine wpAnyH_take (i:=3) (v:=?_) rfl (by kernel_rfl) (by kernel_rfl) (by kernel_rfl) (fun _ _ _ h=>h) (Or.inl ⟨by rfl,?_⟩) (by assumption) ?_
    rotate_left 1
    · (intro w hSw;(try dsimp only at hSw);go_simp;(try with_reducible rfl))
    (try simp only [Act.put,List.getElem_toArray,List.getElem_cons_zero,List.getElem_cons_succ,List.setIfInBounds_toArray,List.set_cons_zero,List.set_cons_succ])
    refine wpAnyH_take (i:=4) (v:=?_) rfl (by kernel_rfl) (by kernel_rfl) (by kernel_rfl) (fun _ _ _ h=>h) (Or.inl ⟨by rfl,?_⟩) (by assumption) ?_
    rotate_left 1
    · (intro w hSw;(try dsimp only at hSw);go_simp;(try with_reducible rfl))
    (try simp only [Act.put,List.getElem_toArray,List.getElem_cons_zero,List.getElem_cons_succ,List.setIfInBounds_toArray,List.set_cons_zero,List.set_cons_succ])
    refine wpAnyH_take (i:=6) (v:=?_) rfl (by kernel_rfl) (by kernel_rfl) (by kernel_rfl) (fun _ _ _ h=>h) (Or.inl ⟨by rfl,?_⟩) (by assumption) ?_
    rotate_left 1
    · (intro w hSw;(try dsimp only at hSw);go_simp;(try with_reducible rfl))
    (try simp only [Act.put,List.getElem_toArray,List.getElem_cons_zero,List.getElem_cons_succ,List.setIfInBounds_toArray,List.set_cons_zero,List.set_cons_succ])
    refine wpAnyH_take (i:=7) (v:=?_) rfl (by kernel_rfl) (by kernel_rfl) (by kernel_rfl) (fun _ _ _ h=>h) (Or.inl ⟨by rfl,?_⟩) (by assumption) ?_
    rotate_left 1
    · (intro w hSw;(try dsimp only at hSw);go_simp;(try with_reducible rfl))
    (try simp only [Act.put,List.getElem_toArray,List.getElem_cons_zero,List.getElem_cons_succ,List.setIfInBounds_toArray,List.set_cons_zero,List.set_cons_succ])
    refine wpAnyH_ready (rs:=[2,9]) (by kernel_rfl) (by simp) ?_
    refine AllReadyH.cons rfl (fun K hK=>?_) (AllReadyH.cons rfl (fun K hK=>?_) AllReadyH.nil)
    · go_simp
      (go_at_call 15;go_loud (with_reducible refine (KF.out _).mono ?_);go_loud (rintro e2 wn1 ⟨rfl,hst⟩))
      refine hK.out _ _ (KSA.out _ (bt hbk hst)) (fun hHeld=>?_)
      clear hK K
      replace hbk:=bt hbk hst
      clear hst
      (try simp only [Act.put,List.getElem_toArray,List.getElem_cons_zero,List.getElem_cons_succ,List.setIfInBounds_toArray,List.set_cons_zero,List.set_cons_succ])
      refine wpAnyH_ready (rs:=[5,9]) (by kernel_rfl) (by simp) ?_
      refine AllReadyH.cons rfl (fun K hK=>?_) (AllReadyH.cons rfl (fun K hK=>?_) AllReadyH.nil)
      · go_simp
        (go_at_call 24;go_loud (with_reducible refine (KL.out _ (bt HC0.out.gg hbk)).mono ?_);go_loud (rintro e5 wn2 ⟨v5,rfl,ho5,hst⟩))
        refine hK.out _ _ (KSA.out _ (bt hbk hst)) (fun hHeld=>?_)
        clear hK K
        obtain ⟨a5,c5,rfl⟩:=orow_form ho5
        replace ho5:=orow_mono ho5 hbk.size
        replace hbk:=bt hbk hst
        clear hst
        (try simp only [Act.put,List.getElem_toArray,List.getElem_cons_zero,List.getElem_cons_succ,List.setIfInBounds_toArray,List.set_cons_zero,List.set_cons_succ])
        refine wpAnyH_take (i:=8) (v:=?_) rfl (by kernel_rfl) (by kernel_rfl) (by kernel_rfl) (fun _ _ _ h=>h) (Or.inl ⟨by rfl,?_⟩) (by assumption) ?_
        rotate_left 1
        · (intro w hSw;(try dsimp only at hSw);go_simp;(try with_reducible rfl))
        (try simp only [Act.put,List.getElem_toArray,List.getElem_cons_zero,List.getElem_cons_succ,List.setIfInBounds_toArray,List.set_cons_zero,List.set_cons_succ])
        refine wpAnyH_ready (rs:=[9]) (by kernel_rfl) (by simp) ?_
        refine AllReadyH.cons rfl (fun K hK=>?_) AllReadyH.nil
        go_simp
        refine hK.out _ _ (KSA.out _ (bal hbk _)) (fun hHeld=>?_)
        clear hK K
        have hst:=bal (Below.refl wn2.heap.size wn2) (.cells #[.int .i64 0,.int .u64 0,.int .u64 0,.int .u64 0,.string ⟨#[]⟩,.string ⟨#[]⟩,.string ⟨#[]⟩,.string ⟨#[]⟩,.int .i64 0,.slice none 0 0,.string ⟨#[]⟩,.slice none 0 0] 48)
        have L9:=heap_alloc_new wn2 (.cells #[.int .i64 0,.int .u64 0,.int .u64 0,.int .u64 0,.string ⟨#[]⟩,.string ⟨#[]⟩,.string ⟨#[]⟩,.string ⟨#[]⟩,.int .i64 0,.slice none 0 0,.string ⟨#[]⟩,.slice none 0 0] 48)
        have hM9:=hbk.size
        replace ho5:=orow_bel ho5 hst
        replace hbk:=bt hbk hst
        generalize wn2.alloc (.cells #[.int .i64 0,.int .u64 0,.int .u64 0,.int .u64 0,.string ⟨#[]⟩,.string ⟨#[]⟩,.string ⟨#[]⟩,.string ⟨#[]⟩,.int .i64 0,.slice none 0 0,.string ⟨#[]⟩,.slice none 0 0] 48) = wn3 at *
        clear hst
        (try simp only [Act.put,List.getElem_toArray,List.getElem_cons_zero,List.getElem_cons_succ,List.setIfInBounds_toArray,List.set_cons_zero,List.set_cons_succ])
        refine wpAnyH_ready (rs:=[10]) (by kernel_rfl) (by simp) ?_
        refine AllReadyH.cons rfl (fun K hK=>?_) AllReadyH.nil
        obtain ⟨k0,k0'⟩:=live_of L9 0 _ rfl
        obtain ⟨k1,k1'⟩:=live_of L9 1 _ rfl
        obtain ⟨k2,k2'⟩:=live_of L9 2 _ rfl
        obtain ⟨k3,k3'⟩:=live_of L9 3 _ rfl
        obtain ⟨k4,k4'⟩:=live_of L9 4 _ rfl
        obtain ⟨k5,k5'⟩:=live_of L9 5 _ rfl
        obtain ⟨k6,k6'⟩:=live_of L9 6 _ rfl
        obtain ⟨k7,k7'⟩:=live_of L9 7 _ rfl
        obtain ⟨k8,k8'⟩:=live_of L9 8 _ rfl
        obtain ⟨k9,k9'⟩:=live_of L9 9 _ rfl
        obtain ⟨k10,k10'⟩:=live_of L9 10 _ rfl
        obtain ⟨k11,k11'⟩:=live_of L9 11 _ rfl
        go_simp
        have hst : Below W.heap.size W (st12 wn3 wn2.heap.size (.int .i64 s.first.fl.toNat) (.int .u64 s.first.po) (.int .u64 s.first.se) (.int .u64 s.first.nu) (.string s.first.la) (.string s.first.bo) (.string ⟨#[]⟩) (.string s.b.vt) (.int .i64 s.b.vs) (.slice a5 nn c5) (.string s.setup) (.slice none 0 0)):=by
          unfold st12
          iterate 12 refine Below.setCell ?_ hM9 _
          exact hbk
        refine hK.out _ _ (KSA.out _ hst) (fun hHeld=>?_)
        clear hK K k0 k0' k1 k1' k2 k2' k3 k3' k4 k4' k5 k5' k6 k6' k7 k7' k8 k8' k9 k9' k10 k10' k11 k11'
        replace ho5 : (st12 wn3 wn2.heap.size (.int .i64 s.first.fl.toNat) (.int .u64 s.first.po) (.int .u64 s.first.se) (.int .u64 s.first.nu) (.string s.first.la) (.string s.first.bo) (.string ⟨#[]⟩) (.string s.b.vt) (.int .i64 s.b.vs) (.slice a5 nn c5) (.string s.setup) (.slice none 0 0)).ownsRow W.heap.size 42 3 (.slice a5 nn c5) nn (ntcells s.b.ns):=orow_other ho5 fun q hq=>st12_other _ _ _ _ _ _ _ _ _ _ _ _ _ _ q (fun e=>orow_tag ho5 L9 (by decide) (by rw [hq,e]))
        replace L9:=st12_heap L9 (.int .i64 s.first.fl.toNat) (.int .u64 s.first.po) (.int .u64 s.first.se) (.int .u64 s.first.nu) (.string s.first.la) (.string s.first.bo) (.string ⟨#[]⟩) (.string s.b.vt) (.int .i64 s.b.vs) (.slice a5 nn c5) (.string s.setup) (.slice none 0 0)
        replace hbk:=hst
        clear hst
        (try simp only [Act.put,List.getElem_toArray,List.getElem_cons_zero,List.getElem_cons_succ,List.setIfInBounds_toArray,List.set_cons_zero,List.set_cons_succ])
        refine wpAnyH_done (by kernel_rfl) ?_ _
        go_wp2_with fail
        go_meet
        exact ⟨wn2.heap.size,a5,c5,rfl,hM9,hbk,L9,ho5⟩
      · go_simp
        refine hK.out _ _ (KSA.out _ (bal hbk _)) (fun hHeld=>?_)
        clear hK K
        have hst:=bal (Below.refl wn1.heap.size wn1) (.cells #[.int .i64 0,.int .u64 0,.int .u64 0,.int .u64 0,.string ⟨#[]⟩,.string ⟨#[]⟩,.string ⟨#[]⟩,.string ⟨#[]⟩,.int .i64 0,.slice none 0 0,.string ⟨#[]⟩,.slice none 0 0] 48)
        have L9:=heap_alloc_new wn1 (.cells #[.int .i64 0,.int .u64 0,.int .u64 0,.int .u64 0,.string ⟨#[]⟩,.string ⟨#[]⟩,.string ⟨#[]⟩,.string ⟨#[]⟩,.int .i64 0,.slice none 0 0,.string ⟨#[]⟩,.slice none 0 0] 48)
        have hM9:=hbk.size
        replace hbk:=bt hbk hst
        generalize wn1.alloc (.cells #[.int .i64 0,.int .u64 0,.int .u64 0,.int .u64 0,.string ⟨#[]⟩,.string ⟨#[]⟩,.string ⟨#[]⟩,.string ⟨#[]⟩,.int .i64 0,.slice none 0 0,.string ⟨#[]⟩,.slice none 0 0] 48) = wn5 at *
        clear hst
        (try simp only [Act.put,List.getElem_toArray,List.getElem_cons_zero,List.getElem_cons_succ,List.setIfInBounds_toArray,List.set_cons_zero,List.set_cons_succ])
        refine wpAnyH_ready (rs:=[5]) (by kernel_rfl) (by simp) ?_
        refine AllReadyH.cons rfl (fun K hK=>?_) AllReadyH.nil
        go_simp
        (go_at_call 24;go_loud (with_reducible refine (KL.out _ (bt HC0.out.gg hbk)).mono ?_);go_loud (rintro e5 wn6 ⟨v5,rfl,ho5,hst⟩))
        refine hK.out _ _ (KSA.out _ (bt hbk hst)) (fun hHeld=>?_)
        clear hK K
        obtain ⟨a5,c5,rfl⟩:=orow_form ho5
        replace ho5:=orow_mono ho5 hbk.size
        replace L9:=blkP L9 hst
        replace hbk:=bt hbk hst
        clear hst
        (try simp only [Act.put,List.getElem_toArray,List.getElem_cons_zero,List.getElem_cons_succ,List.setIfInBounds_toArray,List.set_cons_zero,List.set_cons_succ])
        refine wpAnyH_take (i:=8) (v:=?_) rfl (by kernel_rfl) (by kernel_rfl) (by kernel_rfl) (fun _ _ _ h=>h) (Or.inl ⟨by rfl,?_⟩) (by assumption) ?_
        rotate_left 1
        · (intro w hSw;(try dsimp only at hSw);go_simp;(try with_reducible rfl))
        (try simp only [Act.put,List.getElem_toArray,List.getElem_cons_zero,List.getElem_cons_succ,List.setIfInBounds_toArray,List.set_cons_zero,List.set_cons_succ])
        refine wpAnyH_ready (rs:=[10]) (by kernel_rfl) (by simp) ?_
        refine AllReadyH.cons rfl (fun K hK=>?_) AllReadyH.nil
        obtain ⟨k0,k0'⟩:=live_of L9 0 _ rfl
        obtain ⟨k1,k1'⟩:=live_of L9 1 _ rfl
        obtain ⟨k2,k2'⟩:=live_of L9 2 _ rfl
        obtain ⟨k3,k3'⟩:=live_of L9 3 _ rfl
        obtain ⟨k4,k4'⟩:=live_of L9 4 _ rfl
        obtain ⟨k5,k5'⟩:=live_of L9 5 _ rfl
        obtain ⟨k6,k6'⟩:=live_of L9 6 _ rfl
        obtain ⟨k7,k7'⟩:=live_of L9 7 _ rfl
        obtain ⟨k8,k8'⟩:=live_of L9 8 _ rfl
        obtain ⟨k9,k9'⟩:=live_of L9 9 _ rfl
        obtain ⟨k10,k10'⟩:=live_of L9 10 _ rfl
        obtain ⟨k11,k11'⟩:=live_of L9 11 _ rfl
        go_simp
        have hst : Below W.heap.size W (st12 wn6 wn1.heap.size (.int .i64 s.first.fl.toNat) (.int .u64 s.first.po) (.int .u64 s.first.se) (.int .u64 s.first.nu) (.string s.first.la) (.string s.first.bo) (.string ⟨#[]⟩) (.string s.b.vt) (.int .i64 s.b.vs) (.slice a5 nn c5) (.string s.setup) (.slice none 0 0)):=by
          unfold st12
          iterate 12 refine Below.setCell ?_ hM9 _
          exact hbk
        refine hK.out _ _ (KSA.out _ hst) (fun hHeld=>?_)
        clear hK K k0 k0' k1 k1' k2 k2' k3 k3' k4 k4' k5 k5' k6 k6' k7 k7' k8 k8' k9 k9' k10 k10' k11 k11'
        replace ho5 : (st12 wn6 wn1.heap.size (.int .i64 s.first.fl.toNat) (.int .u64 s.first.po) (.int .u64 s.first.se) (.int .u64 s.first.nu) (.string s.first.la) (.string s.first.bo) (.string ⟨#[]⟩) (.string s.b.vt) (.int .i64 s.b.vs) (.slice a5 nn c5) (.string s.setup) (.slice none 0 0)).ownsRow W.heap.size 42 3 (.slice a5 nn c5) nn (ntcells s.b.ns):=orow_other ho5 fun q hq=>st12_other _ _ _ _ _ _ _ _ _ _ _ _ _ _ q (fun e=>orow_tag ho5 L9 (by decide) (by rw [hq,e]))
        replace L9:=st12_heap L9 (.int .i64 s.first.fl.toNat) (.int .u64 s.first.po) (.int .u64 s.first.se) (.int .u64 s.first.nu) (.string s.first.la) (.string s.first.bo) (.string ⟨#[]⟩) (.string s.b.vt) (.int .i64 s.b.vs) (.slice a5 nn c5) (.string s.setup) (.slice none 0 0)
        replace hbk:=hst
        clear hst
        (try simp only [Act.put,List.getElem_toArray,List.getElem_cons_zero,List.getElem_cons_succ,List.setIfInBounds_toArray,List.set_cons_zero,List.set_cons_succ])
        refine wpAnyH_done (by kernel_rfl) ?_ _
        go_wp2_with fail
        go_meet
        exact ⟨wn1.heap.size,a5,c5,rfl,hM9,hbk,L9,ho5⟩
    · go_simp
      refine hK.out _ _ (KSA.out _ (bal hbk _)) (fun hHeld=>?_)
      clear hK K
      have hst:=bal (Below.refl Wd.heap.size Wd) (.cells #[.int .i64 0,.int .u64 0,.int .u64 0,.int .u64 0,.string ⟨#[]⟩,.string ⟨#[]⟩,.string ⟨#[]⟩,.string ⟨#[]⟩,.int .i64 0,.slice none 0 0,.string ⟨#[]⟩,.slice none 0 0] 48)
      have L9:=heap_alloc_new Wd (.cells #[.int .i64 0,.int .u64 0,.int .u64 0,.int .u64 0,.string ⟨#[]⟩,.string ⟨#[]⟩,.string ⟨#[]⟩,.string ⟨#[]⟩,.int .i64 0,.slice none 0 0,.string ⟨#[]⟩,.slice none 0 0] 48)
      have hM9:=hbk.size
      replace hbk:=bt hbk hst
      generalize Wd.alloc (.cells #[.int .i64 0,.int .u64 0,.int .u64 0,.int .u64 0,.string ⟨#[]⟩,.string ⟨#[]⟩,.string ⟨#[]⟩,.string ⟨#[]⟩,.int .i64 0,.slice none 0 0,.string ⟨#[]⟩,.slice none 0 0] 48) = wn8 at *
      clear hst
      (try simp only [Act.put,List.getElem_toArray,List.getElem_cons_zero,List.getElem_cons_succ,List.setIfInBounds_toArray,List.set_cons_zero,List.set_cons_succ])
      refine wpAnyH_ready (rs:=[2]) (by kernel_rfl) (by simp) ?_
      refine AllReadyH.cons rfl (fun K hK=>?_) AllReadyH.nil
      go_simp
      (go_at_call 15;go_loud (with_reducible refine (KF.out _).mono ?_);go_loud (rintro e2 wn9 ⟨rfl,hst⟩))
      refine hK.out _ _ (KSA.out _ (bt hbk hst)) (fun hHeld=>?_)
      clear hK K
      replace L9:=blkP L9 hst
      replace hbk:=bt hbk hst
      clear hst
      (try simp only [Act.put,List.getElem_toArray,List.getElem_cons_zero,List.getElem_cons_succ,List.setIfInBounds_toArray,List.set_cons_zero,List.set_cons_succ])
      refine wpAnyH_ready (rs:=[5]) (by kernel_rfl) (by simp) ?_
      refine AllReadyH.cons rfl (fun K hK=>?_) AllReadyH.nil
      go_simp
      (go_at_call 24;go_loud (with_reducible refine (KL.out _ (bt HC0.out.gg hbk)).mono ?_);go_loud (rintro e5 wn10 ⟨v5,rfl,ho5,hst⟩))
      refine hK.out _ _ (KSA.out _ (bt hbk hst)) (fun hHeld=>?_)
      clear hK K
      obtain ⟨a5,c5,rfl⟩:=orow_form ho5
      replace ho5:=orow_mono ho5 hbk.size
      replace L9:=blkP L9 hst
      replace hbk:=bt hbk hst
      clear hst
      (try simp only [Act.put,List.getElem_toArray,List.getElem_cons_zero,List.getElem_cons_succ,List.setIfInBounds_toArray,List.set_cons_zero,List.set_cons_succ])
      refine wpAnyH_take (i:=8) (v:=?_) rfl (by kernel_rfl) (by kernel_rfl) (by kernel_rfl) (fun _ _ _ h=>h) (Or.inl ⟨by rfl,?_⟩) (by assumption) ?_
      rotate_left 1
      · (intro w hSw;(try dsimp only at hSw);go_simp;(try with_reducible rfl))
      (try simp only [Act.put,List.getElem_toArray,List.getElem_cons_zero,List.getElem_cons_succ,List.setIfInBounds_toArray,List.set_cons_zero,List.set_cons_succ])
      refine wpAnyH_ready (rs:=[10]) (by kernel_rfl) (by simp) ?_
      refine AllReadyH.cons rfl (fun K hK=>?_) AllReadyH.nil
      obtain ⟨k0,k0'⟩:=live_of L9 0 _ rfl
      obtain ⟨k1,k1'⟩:=live_of L9 1 _ rfl
      obtain ⟨k2,k2'⟩:=live_of L9 2 _ rfl
      obtain ⟨k3,k3'⟩:=live_of L9 3 _ rfl
      obtain ⟨k4,k4'⟩:=live_of L9 4 _ rfl
      obtain ⟨k5,k5'⟩:=live_of L9 5 _ rfl
      obtain ⟨k6,k6'⟩:=live_of L9 6 _ rfl
      obtain ⟨k7,k7'⟩:=live_of L9 7 _ rfl
      obtain ⟨k8,k8'⟩:=live_of L9 8 _ rfl
      obtain ⟨k9,k9'⟩:=live_of L9 9 _ rfl
      obtain ⟨k10,k10'⟩:=live_of L9 10 _ rfl
      obtain ⟨k11,k11'⟩:=live_of L9 11 _ rfl
      go_simp
      have hst : Below W.heap.size W (st12 wn10 Wd.heap.size (.int .i64 s.first.fl.toNat) (.int .u64 s.first.po) (.int .u64 s.first.se) (.int .u64 s.first.nu) (.string s.first.la) (.string s.first.bo) (.string ⟨#[]⟩) (.string s.b.vt) (.int .i64 s.b.vs) (.slice a5 nn c5) (.string s.setup) (.slice none 0 0)):=by
        unfold st12
        iterate 12 refine Below.setCell ?_ hM9 _
        exact hbk
      refine hK.out _ _ (KSA.out _ hst) (fun hHeld=>?_)
      clear hK K k0 k0' k1 k1' k2 k2' k3 k3' k4 k4' k5 k5' k6 k6' k7 k7' k8 k8' k9 k9' k10 k10' k11 k11'
      replace ho5 : (st12 wn10 Wd.heap.size (.int .i64 s.first.fl.toNat) (.int .u64 s.first.po) (.int .u64 s.first.se) (.int .u64 s.first.nu) (.string s.first.la) (.string s.first.bo) (.string ⟨#[]⟩) (.string s.b.vt) (.int .i64 s.b.vs) (.slice a5 nn c5) (.string s.setup) (.slice none 0 0)).ownsRow W.heap.size 42 3 (.slice a5 nn c5) nn (ntcells s.b.ns):=orow_other ho5 fun q hq=>st12_other _ _ _ _ _ _ _ _ _ _ _ _ _ _ q (fun e=>orow_tag ho5 L9 (by decide) (by rw [hq,e]))
      replace L9:=st12_heap L9 (.int .i64 s.first.fl.toNat) (.int .u64 s.first.po) (.int .u64 s.first.se) (.int .u64 s.first.nu) (.string s.first.la) (.string s.first.bo) (.string ⟨#[]⟩) (.string s.b.vt) (.int .i64 s.b.vs) (.slice a5 nn c5) (.string s.setup) (.slice none 0 0)
      replace hbk:=hst
      clear hst
      (try simp only [Act.put,List.getElem_toArray,List.getElem_cons_zero,List.getElem_cons_succ,List.setIfInBounds_toArray,List.set_cons_zero,List.set_cons_succ])
      refine wpAnyH_done (by kernel_rfl) ?_ _
      go_wp2_with fail
      go_meet
      exact ⟨Wd.heap.size,a5,c5,rfl,hM9,hbk,L9,ho5⟩
  case rest=>
    obtain ⟨gb,a',c',rfl,hgb,hbx,hM,hon⟩:=hcut
    have C:=HC0.out.bel hbx
    have x10:=C.cell 10 _ rfl
    have hgz : gb < wc.heap.size:=(Array.getElem?_eq_some_iff.1 hM).1
    have HNB : Hid (∀ q,(Value.slice a' nn c').ownBlock = some q → W.heap.size ≤ q ∧ q < wc.heap.size):=Lib.hid (orow_blk hon)
    have HM:=Lib.hid hM
    have HON:=Lib.hid hon
    have HBX:=Lib.hid hbx
    clear hM hon hbx C
    go_wp2_with fail
    clear x10
    go_loopw [18] (fun iv wr=>∃ (k : Nat) (vs' : Value),iv = .int .i64 (k : Int) ∧ k ≤ n ∧ Hid (wr.heap[gb]? = some (.cells (roC (.slice a' nn c') vs' s) 48 (0,0))) ∧ Hid (wr.ownsRow wc.heap.size 40 6 vs' k (rgcells (s.sound.take k))) ∧ Hid (wr.ownsRow W.heap.size 42 3 (.slice a' nn c') nn (ntcells s.b.ns)) ∧ Hid (Below W.heap.size W wr) ∧ wc.heap.size ≤ wr.heap.size) (fun iv _=>n - (intOf iv).toNat)
    case atStart=>exact ⟨0,.slice none 0 0,rfl,Nat.zero_le _,HM,Lib.hid (World.ownsRow_nil _ _ _ _),HON,HBX,Nat.le_refl _⟩
    case round=>
      clear HM HON HBX
      obtain ⟨k,vs',rfl,hk,HM,HO,HON,HBE,hwz⟩:=hrel
      obtain ⟨av9,cv9,hu9⟩:=orow_form HO.out
      subst hu9
      have C:=HC0.out.bel HBE.out
      by_cases hlt : k < n
      · obtain ⟨p,hp⟩:=at_some s.sound k (by rw [← HN.out];exact hlt)
        obtain ⟨gg,og,rfl,d0,d1,d2,d3,d4,d5⟩:=g_at HCV.out k p hp
        replace d0:=kc C.gg d0
        replace d1:=kc C.gg d1
        replace d2:=kc C.gg d2
        replace d3:=kc C.gg d3
        replace d4:=kc C.gg d4
        replace d5:=kc C.gg d5
        have kg:=fun w=>gof_any p w (HG2.out p (List.mem_of_getElem? hp))
        unfold gV at kg
        have hst : rgcells (s.sound.take (k + 1)) = rgcells (s.sound.take k) ++ (#[.int .i64 p.fl.toNat,.int .u64 p.po,.int .u64 p.se,.int .u64 p.nu,.string p.la,.string p.bo] : Array Value).toList:=by
          rw [List.take_add_one,hp,Option.toList_some,rgcells_snoc]
        obtain ⟨fl,po,se,nu,la,bo⟩:=p
        simp only at d0 d1 d2 d3 d4 d5 hst kg
        generalize (fl.toNat : Int) = f at *
        obtain ⟨WA,hWA⟩ : ∃ WA,WA = wr.alloc (.cells #[.int .u8 f,.int .u64 po,.int .u32 se,.int .u32 nu,.string la,.string bo] 27):=⟨_,rfl⟩
        have hbA : Below wr.heap.size wr WA:=by rw [hWA];exact bal (Below.refl _ _) _
        have hPA : WA.heap[wr.heap.size]? = some (.cells #[.int .u8 f,.int .u64 po,.int .u32 se,.int .u32 nu,.string la,.string bo] 27 (0,0)):=by rw [hWA];exact heap_alloc_new _ _
        obtain ⟨p0,p1,p2,p3,p4,p5⟩:=gvL hPA
        have hMA:=blkP HM.out hbA
        obtain ⟨m11,m11'⟩:=live_of hMA 11 _ rfl
        have hoA:=orow_bel HO.out hbA
        have hnA:=orow_bel HON.out hbA
        have hwA:=Nat.le_trans hwz hbA.size
        have hbe:=bt HBE.out hbA
        have m0 : (0 : Int) ≤ (k : Int):=by omega
        have m1 : (k : Int) < (n : Int):=by omega
        have hw1 : IntKind.i64.wrap ((k : Int) + 1) = (k : Int) + 1:=wi64 _ (by omega) (by omega)
        have z1 : k < 70368744177664:=by omega
        have z2 : (k + 1) * 64 ≤ 140737488355328:=by omega
        have HST:=Lib.hid hst
        have HMA:=Lib.hid hMA
        have HOA:=Lib.hid hoA
        have HNA:=Lib.hid hnA
        have HBEA:=Lib.hid hbe
        have KG:=Lib.hid kg
        have HZ1:=Lib.hid z1
        have HZ2:=Lib.hid z2
        clear hp hst hbA hPA hMA hoA hnA hbe kg z1 z2 C
        go_wp2_with fail
        rw [← hWA]
        clear hWA
        go_region_law (first
          | (go_simp;go_at_call 15;(with_reducible refine (KG.out _).mono ?_);rintro e wd ⟨rfl,hst⟩;have hbd : Below WA.heap.size WA wd:=(by first | exact bt (Below.refl _ _).drew hst | exact hst | exact bt (bdn (Below.refl _ _) _) hst);have hMd:=blkP HMA.out hbd;obtain ⟨m11d,m11d'⟩:=live_of hMd 11 _ rfl;have hod:=orow_bel HOA.out hbd;have hwd:=Nat.le_trans hwA hbd.size;have m11e:=kc (bal (Below.refl wd.heap.size wd) (.cells #[.int .i64 f,.int .u64 po,.int .u64 se,.int .u64 nu,.string la,.string bo] 40)) m11d)
          | (refine step_push1 rfl _ _ 46 40 rfl Tryz.underlying46 (.agg #[.int .i64 0,.int .u64 0,.int .u64 0,.int .u64 0,.string ⟨#[]⟩,.string ⟨#[]⟩]) 6 64 infoRG rfl (by decide) wd wc.heap.size (.slice av9 k cv9) k (rgcells (s.sound.take k)) rfl hod #[.int .i64 f,.int .u64 po,.int .u64 se,.int .u64 nu,.string la,.string bo] rfl (by simp [Value.oneCell']) rfl HZ1.out HZ2.out hwd ?_;intro v' we howe hbe;have hMe:=(hbe.block gb hgz).trans hMd;obtain ⟨m11f,m11f'⟩:=live_of hMe 11 _ rfl;obtain ⟨ae,ce,rfl⟩:=orow_form howe))
        all_goals
          have hgW : W.heap.size ≤ wc.heap.size:=by omega
          have h11:=Go.Lib.heap_setCell_same (i:=11) hMe (.slice ae (k + 1) ce)
          have hB9 : Below W.heap.size W (we.setCell ⟨gb,11,none⟩ (.slice ae (k + 1) ce)):=((bt HBEA.out hbd).trans (hbe.mono hgW)).setCell hgb _
          have ho9 : (we.setCell ⟨gb,11,none⟩ (.slice ae (k + 1) ce)).ownsRow wc.heap.size 40 6 (.slice ae (k + 1) ce) (k + 1) (rgcells (s.sound.take (k + 1))):=by
            rw [HST.out]
            exact orow_other howe fun q hq=>Below.heap_setCell _ _ _ q (by have:=(orow_blk howe q hq).1;simp;omega)
          have hn9 : (we.setCell ⟨gb,11,none⟩ (.slice ae (k + 1) ce)).ownsRow W.heap.size 42 3 (.slice a' nn c') nn (ntcells s.b.ns):=by
            have hnd:=orow_bel HNA.out hbd
            have hne : we.ownsRow W.heap.size 42 3 (.slice a' nn c') nn (ntcells s.b.ns):=orow_other hnd fun q hq=>hbe.block q (HNB.out q hq).2
            exact orow_other hne fun q hq=>Below.heap_setCell _ _ _ q (by intro e;simp only at e;exact orow_tag hne hMe (by decide) (by rw [hq,e]))
          have hwe : wc.heap.size ≤ (we.setCell ⟨gb,11,none⟩ (.slice ae (k + 1) ce)).heap.size:=by
            rw [World.size_setCell]
            exact Nat.le_trans hwd hbe.size
          have HM9 : Hid ((we.setCell ⟨gb,11,none⟩ (.slice ae (k + 1) ce)).heap[gb]? = some (.cells (roC (.slice a' nn c') (.slice ae (k + 1) ce) s) 48 (0,0))):=Lib.hid (by rw [h11];simp)
          have HO9:=Lib.hid ho9
          have HN9:=Lib.hid hn9
          have HB9:=Lib.hid hB9
          clear h11 ho9 hn9 hB9
          go_wp2_with fail
          go_roundw
          case rel=>exact ⟨k + 1,_,by go_num,by omega,HM9,HO9,HN9,HB9,hwe⟩
          case measure=>simp [intOf];omega
      · have hkn : k = n:=by omega
        have ho:=HO.out
        rw [hkn,List.take_of_length_le (by rw [← HN.out];exact Nat.le_refl _)] at ho
        have m1 : ¬ (k : Int) < (n : Int):=by omega
        have hM:=HM.out
        rw [hkn] at hM
        obtain ⟨k0,_⟩:=live_of hM 0 _ rfl
        obtain ⟨q0,q0'⟩:=C.ret 0 _ rfl
        obtain ⟨k1,_⟩:=live_of hM 1 _ rfl
        obtain ⟨q1,q1'⟩:=C.ret 1 _ rfl
        obtain ⟨k2,_⟩:=live_of hM 2 _ rfl
        obtain ⟨q2,q2'⟩:=C.ret 2 _ rfl
        obtain ⟨k3,_⟩:=live_of hM 3 _ rfl
        obtain ⟨q3,q3'⟩:=C.ret 3 _ rfl
        obtain ⟨k4,_⟩:=live_of hM 4 _ rfl
        obtain ⟨q4,q4'⟩:=C.ret 4 _ rfl
        obtain ⟨k5,_⟩:=live_of hM 5 _ rfl
        obtain ⟨q5,q5'⟩:=C.ret 5 _ rfl
        obtain ⟨k6,_⟩:=live_of hM 6 _ rfl
        obtain ⟨q6,q6'⟩:=C.ret 6 _ rfl
        obtain ⟨k7,_⟩:=live_of hM 7 _ rfl
        obtain ⟨q7,q7'⟩:=C.ret 7 _ rfl
        obtain ⟨k8,_⟩:=live_of hM 8 _ rfl
        obtain ⟨q8,q8'⟩:=C.ret 8 _ rfl
        obtain ⟨k9,_⟩:=live_of hM 9 _ rfl
        obtain ⟨q9,q9'⟩:=C.ret 9 _ rfl
        obtain ⟨k10,_⟩:=live_of hM 10 _ rfl
        obtain ⟨q10,q10'⟩:=C.ret 10 _ rfl
        obtain ⟨k11,_⟩:=live_of hM 11 _ rfl
        obtain ⟨q11,q11'⟩:=C.ret 11 _ rfl
        have hgn1 : ¬ gb = w.heap.size + 1:=by have:=HWS.out;omega
        have hgn2 : ¬ w.heap.size + 1 = gb:=by have:=HWS.out;omega
        have HO9:=Lib.hid ho
        have HGG:=Lib.hid C.gg
        have hkn2:=hkn
        subst hkn2
        clear hM ho C
        go_wp2_with fail
        refine bodyPost_ret (v:=.agg #[.int .i64 s.first.fl.toNat,.int .u64 s.first.po,.int .u64 s.first.se,.int .u64 s.first.nu,.string s.first.la,.string s.first.bo,.string ⟨#[]⟩,.string s.b.vt,.int .i64 s.b.vs,.slice a' nn c',.string s.setup,.slice av9 k cv9]) (by simp [results,Tryz.results8,go_sem,q0,q0',q1,q1',q2,q2',q3,q3',q4,q4',q5,q5',q6,q6',q7,q7',q8,q8',q9,q9',q10,q10',q11,q11']) rfl ?_
        refine ⟨.slice a' nn c',.slice av9 k cv9,rfl,?_,?_,st12_bel HGG.out (Nat.le_succ _)  _ _ _ _ _ _ _ _ _ _ _ _⟩
        · rw [← HNN.out]
          refine orow_mono (orow_other HON.out fun q hq=>st12_other _ _  _ _ _ _ _ _ _ _ _ _ _ _ q ?_) (by have:=HWS.out;omega)
          have:=(orow_blk HON.out q hq).1
          have:=HWS.out
          omega
        · rw [← HN.out]
          refine orow_mono (orow_other HO9.out fun q hq=>st12_other _ _  _ _ _ _ _ _ _ _ _ _ _ _ q ?_) (by have:=HWS.out;omega)
          have:=(orow_blk HO9.out q hq).1
          have:=HWS.out
          omega
end Go.Proofs.YtnbglcaeekppjaaGreatDoor

namespace Go.Proofs.YtnbglcaeekppjaaGreatDoor
open Go.RowKit
set_option linter.unusedVariables false
set_option linter.unusedSimpArgs false

theorem rgcells_at (l : List PG) (i : Nat) (p : PG) (h : l[i]? = some p) (j : Nat) (v : Value) (hj : ((rgC p).toList)[j]? = some v) : (rgcells l)[i * 6 + j]? = some v:=by
  have hj6 : j < 6:=(List.getElem?_eq_some_iff.1 hj).1
  induction l generalizing i with
  | nil=>simp at h
  | cons q r ih=>
    have hl : ((rgC q).toList).length = 6:=rfl
    unfold rgcells
    rw [List.flatMap_cons]
    cases i with
    | zero=>
      simp only [List.getElem?_cons_zero,Option.some.injEq] at h
      subst h
      rw [Nat.zero_mul,Nat.zero_add,List.getElem?_append_left (by rw [hl];exact hj6)]
      exact hj
    | succ i=>
      rw [List.getElem?_append_right (by rw [hl];omega),hl,show (i + 1) * 6 + j - 6 = i * 6 + j by omega]
      exact ih i (by simpa using h)
theorem rg_at {w : World} {av : Option Addr} {l : List PG} (hc : ∀ (j : Nat) (x : Value),(rgcells l)[j]? = some x → ∃ g o,av = some ⟨g,o,none⟩ ∧ w.cell? ⟨g,o + j,none⟩ = some x) (k : Nat) (p : PG) (hk : l[k]? = some p) :
    ∃ g o,av = some ⟨g,o,none⟩ ∧ w.cell? ⟨g,o + k * 6,none⟩ = some (.int .i64 p.fl.toNat) ∧ w.cell? ⟨g,o + k * 6 + 1,none⟩ = some (.int .u64 p.po) ∧ w.cell? ⟨g,o + k * 6 + 2,none⟩ = some (.int .u64 p.se) ∧ w.cell? ⟨g,o + k * 6 + 3,none⟩ = some (.int .u64 p.nu) ∧ w.cell? ⟨g,o + k * 6 + 4,none⟩ = some (.string p.la) ∧ w.cell? ⟨g,o + k * 6 + 5,none⟩ = some (.string p.bo):=by
  have hx : ∀ (j : Nat) (v : Value),((rgC p).toList)[j]? = some v → ∃ g o,av = some ⟨g,o,none⟩ ∧ w.cell? ⟨g,o + (k * 6 + j),none⟩ = some v:=fun j v hj=>hc _ _ (rgcells_at l k p hk j v hj)
  obtain ⟨g,o,rfl,c0⟩:=hx 0 _ rfl
  have hy : ∀ (j : Nat) (v : Value),((rgC p).toList)[j]? = some v → w.cell? ⟨g,o + k * 6 + j,none⟩ = some v:=by
    intro j v hj
    obtain ⟨g',o',e,c⟩:=hx j v hj
    simp only [Option.some.injEq,Addr.mk.injEq,and_true] at e
    obtain ⟨rfl,rfl⟩:=e
    rw [Nat.add_assoc]
    exact c
  exact ⟨g,o,rfl,hy 0 _ rfl,hy 1 _ rfl,hy 2 _ rfl,hy 3 _ rfl,hy 4 _ rfl,hy 5 _ rfl⟩
theorem eqRG0 (a b c d : Int) (x y : ByteArray) (w : World) : (Op.equalIn 10000 40 (.agg #[.int .i64 a,.int .u64 b,.int .u64 c,.int .u64 d,.string x,.string y]) (.agg #[.int .i64 a,.int .u64 b,.int .u64 c,.int .u64 d,.string x,.string y])).run Tryz.prog w = .ok true w:=by
  have hS : Tryz.prog.underlying 40 = some (.struct (Tryz.prog.fieldsOf 40)):=by kernel_rfl
  have hp : Tryz.prog.stoodInHeld 40 = false:=by kernel_rfl
  rw [show (10000 : Nat) = 9999 + 1 from rfl,run_equalIn_agg w 9999 40 _ _ hS hp]
  simp only [Program.fieldsOf,Tryz.underlying40]
  simp [go_sem,Op.eqFields]
theorem neqRG (a b c d : Int) (x y : ByteArray) (w : World) : (binOp .neq 40 (.agg #[.int .i64 a,.int .u64 b,.int .u64 c,.int .u64 d,.string x,.string y]) (.agg #[.int .i64 a,.int .u64 b,.int .u64 c,.int .u64 d,.string x,.string y])).run Tryz.prog w = .ok (.bool false) w:=by
  rw [run_neq_struct,eqRG0];rfl
theorem guardRG (op : BinOp) (x y : Operand) (xs ys : Array Value) (w : World) : (eqGuard op 40 x y (.agg xs) (.agg ys)).run Tryz.prog w = .ok () w:=run_eqGuard_agg w op 40 x y xs ys (by kernel_rfl)
/-- the rows of a stream as the document has it. -/
def RoRow (w : World) (vn vs : Value) (s : OS) : Prop:=Row w vn s.b.ns.length (ntcells s.b.ns) ∧ Row w vs s.sound.length (rgcells s.sound)
theorem RoRow.keep {w w' : World} {vn vs : Value} {s : OS} (h : RoRow w vn vs s) (hb : Below w.heap.size w w') : RoRow w' vn vs s:=⟨h.1.keep hb,h.2.keep hb⟩
set_option maxRecDepth 100000 in
set_option maxHeartbeats 16000000 in
theorem osame_any (na va nb vb : Value) (a b : OS) (w : World) (hra : RoRow w na va a) (hrb : RoRow w nb vb b) (hl : likeOS a b) (hnl : a.b.ns.length ≤ 1000000) (hsl : a.sound.length ≤ 1900000) :
    Calls Tryz.prog 19 #[.agg (roC na va a),.agg (roC nb vb b),.bool false] w fun e w'=>e = .returned (.bool true) ∧ Below w.heap.size w w':=by
  obtain ⟨l1,l2,l3,l4,l5⟩:=hl
  have ks : ∀ w',Below w.heap.size w w' → Calls Tryz.prog 49 #[.agg #[.string ⟨#[]⟩,.string a.b.vt,.int .i64 a.b.vs,na],.agg #[.string ⟨#[]⟩,.string b.b.vt,.int .i64 b.b.vs,nb],.bool false] w' fun e w''=>e = .returned (.bool true) ∧ Below w'.heap.size w' w'':=fun w' hb=>lsame_any na nb a.b b.b w' (hra.1.keep hb) (hrb.1.keep hb) l3 hnl
  obtain ⟨aa,ca,hva,hca⟩:=hra.2
  obtain ⟨ab,cb,hvb,hcb⟩:=hrb.2
  obtain ⟨n,hn⟩ : ∃ n,n = a.sound.length:=⟨_,rfl⟩
  rw [← l4,← hn] at hvb
  rw [← hn] at hva hsl
  subst hva hvb
  obtain ⟨⟨fl,po,se,nu,la,bo⟩,⟨vt,vs,ns⟩,st,sa⟩:=a
  obtain ⟨fb,⟨vt',vs',ns'⟩,st',sb⟩:=b
  unfold roC
  simp only at l1 l2 l4 l5 ks hca hcb hn ⊢
  subst l1 l2
  generalize (fl.toNat : Int) = f at *
  have e1:=fun w=>neqRG f po se nu la bo w
  have g1:=fun x y w=>guardRG .neq x y #[.int .i64 f,.int .u64 po,.int .u64 se,.int .u64 nu,.string la,.string bo] #[.int .i64 f,.int .u64 po,.int .u64 se,.int .u64 nu,.string la,.string bo] w
  have hSt : (st.toList == st.toList) = true:=by simp
  obtain ⟨W,hW⟩ : ∃ W,W = (w.alloc (.cells #[.int .i64 f,.int .u64 po,.int .u64 se,.int .u64 nu,.string la,.string bo,.string ⟨#[]⟩,.string vt,.int .i64 vs,na,.string st,.slice aa n ca] 48)).alloc (.cells #[.int .i64 f,.int .u64 po,.int .u64 se,.int .u64 nu,.string la,.string bo,.string ⟨#[]⟩,.string vt',.int .i64 vs',nb,.string st,.slice ab n cb] 48):=⟨_,rfl⟩
  have hs1 : (w.alloc (.cells #[.int .i64 f,.int .u64 po,.int .u64 se,.int .u64 nu,.string la,.string bo,.string ⟨#[]⟩,.string vt,.int .i64 vs,na,.string st,.slice aa n ca] 48)).heap.size = w.heap.size + 1:=World.size_alloc _ _
  have hbW : Below w.heap.size w W:=by rw [hW];exact bal (bal (Below.refl _ _) _) _
  have la_ : ∀ (i : Nat) (u : Value),(#[.int .i64 f,.int .u64 po,.int .u64 se,.int .u64 nu,.string la,.string bo,.string ⟨#[]⟩,.string vt,.int .i64 vs,na,.string st,.slice aa n ca] : Array Value)[i]? = some u → W.cell? ⟨w.heap.size,i,none⟩ = some u:=by
    intro i u hu;rw [hW];exact ((Live.fresh w _ 48 i u hu).alloc _).1
  have lb_ : ∀ (i : Nat) (u : Value),(#[.int .i64 f,.int .u64 po,.int .u64 se,.int .u64 nu,.string la,.string bo,.string ⟨#[]⟩,.string vt',.int .i64 vs',nb,.string st,.slice ab n cb] : Array Value)[i]? = some u → W.cell? ⟨w.heap.size + 1,i,none⟩ = some u:=by
    intro i u hu;rw [hW,← hs1];exact (Live.fresh _ _ 48 i u hu).1
  have a0:=la_ 0 _ rfl
  have b0:=lb_ 0 _ rfl
  have a1:=la_ 1 _ rfl
  have b1:=lb_ 1 _ rfl
  have a2:=la_ 2 _ rfl
  have b2:=lb_ 2 _ rfl
  have a3:=la_ 3 _ rfl
  have b3:=lb_ 3 _ rfl
  have a4:=la_ 4 _ rfl
  have b4:=lb_ 4 _ rfl
  have a5:=la_ 5 _ rfl
  have b5:=lb_ 5 _ rfl
  have a6:=la_ 6 _ rfl
  have b6:=lb_ 6 _ rfl
  have a7:=la_ 7 _ rfl
  have b7:=lb_ 7 _ rfl
  have a8:=la_ 8 _ rfl
  have b8:=lb_ 8 _ rfl
  have a9:=la_ 9 _ rfl
  have b9:=lb_ 9 _ rfl
  have a10:=la_ 10 _ rfl
  have b10:=lb_ 10 _ rfl
  have a11:=la_ 11 _ rfl
  have b11:=lb_ 11 _ rfl
  have A11:=Lib.hid a11
  have B11:=Lib.hid b11
  have HCA:=Lib.hid hca
  have HCB:=Lib.hid hcb
  have HN:=Lib.hid hn
  have HBW:=Lib.hid hbW
  have KS:=Lib.hid ks
  have L4:=Lib.hid l4
  have L5:=Lib.hid l5
  clear hca hcb hn hbW ks l4 l5
  clear hs1 la_ lb_ hra hrb l3 hnl
  go_enter Tryz.func19,Tryz.ntmps19
  go_wp2_with fail
  rw [← hW]
  clear hW
  go_wp2_with (go_at_call 49;go_loud (with_reducible refine (KS.out _ HBW.out).mono ?_);go_loud (rintro e w2 ⟨rfl,hb2⟩);go_loud (have a11:=kc hb2 a11);go_loud (have b11:=kc hb2 b11))
  have HB2:=Lib.hid hb2
  clear hb2 e1 g1 hSt
  go_loopw [43] (fun iv wr=>∃ k : Nat,iv = .int .i64 (k : Int) ∧ k ≤ n ∧ Hid (Below W.heap.size W wr)) (fun iv _=>n - (intOf iv).toNat)
  case atStart=>exact ⟨0,rfl,Nat.zero_le _,HB2⟩
  case round=>
    clear HB2 a0 b0 a1 b1 a2 b2 a3 b3 a4 b4 a5 b5 a6 b6 a7 b7 a8 b8 a9 b9 a10 b10 a11 b11
    obtain ⟨k,rfl,hk,HBE⟩:=hrel
    have c3:=kc HBE.out A11.out
    have d3:=kc HBE.out B11.out
    by_cases hlt : k < n
    · obtain ⟨x,hx⟩:=at_some sa k (by rw [← HN.out];exact hlt)
      obtain ⟨y,hy⟩:=at_some sb k (by rw [← L4.out,← HN.out];exact hlt)
      have hxy:=L5.out k x y hx hy
      obtain ⟨ga,oa,rfl,u0,u1,u2,u3,u4,u5⟩:=rg_at HCA.out k x hx
      obtain ⟨gb,ob,rfl,v0,v1,v2,v3,v4,v5⟩:=rg_at HCB.out k y hy
      obtain ⟨xf,xp,xs,xn,xl,xo⟩:=x
      obtain ⟨yf,yp,ys,yn,yl,yo⟩:=y
      simp only [PG.mk.injEq,true_and] at hxy
      obtain ⟨rfl,rfl,rfl,rfl,rfl⟩:=hxy
      simp only at u0 u1 u2 u3 u4 u5 v0 v1 v2 v3 v4 v5
      generalize (xf.toNat : Int) = q at *
      replace u0:=kc HBE.out (kc HBW.out u0)
      replace v0:=kc HBE.out (kc HBW.out v0)
      replace u1:=kc HBE.out (kc HBW.out u1)
      replace v1:=kc HBE.out (kc HBW.out v1)
      replace u2:=kc HBE.out (kc HBW.out u2)
      replace v2:=kc HBE.out (kc HBW.out v2)
      replace u3:=kc HBE.out (kc HBW.out u3)
      replace v3:=kc HBE.out (kc HBW.out v3)
      replace u4:=kc HBE.out (kc HBW.out u4)
      replace v4:=kc HBE.out (kc HBW.out v4)
      replace u5:=kc HBE.out (kc HBW.out u5)
      replace v5:=kc HBE.out (kc HBW.out v5)
      have m0 : (0 : Int) ≤ (k : Int):=by omega
      have m1 : (k : Int) < (n : Int):=by omega
      have hw1 : IntKind.i64.wrap ((k : Int) + 1) = (k : Int) + 1:=wi64 _ (by omega) (by omega)
      have e1:=fun w=>neqRG q xp xs 0 xl xo w
      have g1:=fun p_ q_ w=>guardRG .neq p_ q_ #[.int .i64 q,.int .u64 xp,.int .u64 xs,.int .u64 0,.string xl,.string xo] #[.int .i64 q,.int .u64 xp,.int .u64 xs,.int .u64 0,.string xl,.string xo] w
      have n0:=World.new_ne _ _ u0
      have n1:=World.new_ne _ _ v0
      have n2:=World.new_ne _ _ c3
      have n3:=World.new_ne _ _ d3
      have hbel:=HBE.out
      have HX:=Lib.hid hbel
      clear hx hy hbel
      go_upto_region 6 with fail
      go_region_held3 (fun w'=>w'.cell? ⟨w.heap.size,11,none⟩ = some (.slice (some ⟨ga,oa,none⟩) n ca) ∧ w'.cell? ⟨w.heap.size + 1,11,none⟩ = some (.slice (some ⟨gb,ob,none⟩) n cb) ∧ w'.cell? ⟨ga,oa + k * 6,none⟩ = some (.int .i64 q) ∧ w'.cell? ⟨ga,oa + k * 6 + 1,none⟩ = some (.int .u64 xp) ∧ w'.cell? ⟨ga,oa + k * 6 + 2,none⟩ = some (.int .u64 xs) ∧ w'.cell? ⟨ga,oa + k * 6 + 3,none⟩ = some (.int .u64 xn) ∧ w'.cell? ⟨ga,oa + k * 6 + 4,none⟩ = some (.string xl) ∧ w'.cell? ⟨ga,oa + k * 6 + 5,none⟩ = some (.string xo) ∧ w'.cell? ⟨gb,ob + k * 6,none⟩ = some (.int .i64 q) ∧ w'.cell? ⟨gb,ob + k * 6 + 1,none⟩ = some (.int .u64 xp) ∧ w'.cell? ⟨gb,ob + k * 6 + 2,none⟩ = some (.int .u64 xs) ∧ w'.cell? ⟨gb,ob + k * 6 + 3,none⟩ = some (.int .u64 yn) ∧ w'.cell? ⟨gb,ob + k * 6 + 4,none⟩ = some (.string xl) ∧ w'.cell? ⟨gb,ob + k * 6 + 5,none⟩ = some (.string xo)) (go_keep) (fail)
      all_goals
        go_wp2_with fail
        exact ⟨⟨k + 1,by go_num,by omega,Lib.hid (by
          have hz:=HX.out.size
          first
            | exact (bal (bal HX.out _) _).drew
            | exact (((bal (bal HX.out _) _).drew.setCell (by simp;omega) _).setCell (by simp;omega) _))⟩,by simp [intOf];omega⟩
    · have hbz:=HBW.out.trans (HBE.out.mono HBW.out.size)
      have m1 : ¬ (k : Int) < (n : Int):=by omega
      have HBZ:=Lib.hid hbz
      clear hbz
      go_wp2_with fail
      go_ret
      exact ⟨rfl,HBZ.out⟩
end Go.Proofs.YtnbglcaeekppjaaGreatDoor

namespace Go.Proofs.YtnbglcaeekppjaaGreatDoor
open Go.RowKit
set_option linter.unusedVariables false
set_option linter.unusedSimpArgs false

theorem crc_one : crcF 0 [1] = 79764919:=by decide +kernel
set_option maxRecDepth 100000 in
set_option maxHeartbeats 4000000 in
theorem awake16_any (w : World) : Calls Tryz.prog 90 #[] w fun e w'=>e = .returned (.bool true) ∧ Below w.heap.size w w':=by
  have k1:=fun w=>awake01_any w
  have k2 : ∀ w,Calls Tryz.prog 97 #[.slice none 0 0] w fun e w'=>e = .returned (.int .u32 0) ∧ Below w.heap.size w w':=fun w=>sof_any [] (.slice none 0 0) w (Row.nil w) (fun t ht=>by cases ht) (by decide)
  have k3 : ∀ X : World,Calls Tryz.prog 97 #[.slice (some ⟨X.heap.size,0,none⟩) 1 1] (X.alloc (.cells #[.string ⟨#[1]⟩] 9)) fun e w'=>e = .returned (.int .u32 79764919) ∧ Below X.heap.size X w':=fun X=>by
    have:=sof_any [⟨#[1]⟩] (.slice (some ⟨X.heap.size,0,none⟩) 1 1) (X.alloc (.cells #[.string ⟨#[1]⟩] 9)) (row_lit X _ _ 1) (fun t ht=>by simp at ht;subst ht;decide) (by show 1 ≤ _;decide)
    rw [show crcF 0 (([(⟨#[1]⟩ : ByteArray)].map bl).flatten) = 79764919 from crc_one] at this
    exact this.mono fun e w' h=>⟨h.1,bt (bal (Below.refl _ _) _) h.2⟩
  have K1:=Lib.hid k1
  have K2:=Lib.hid k2
  have K3:=Lib.hid k3
  clear k1 k2 k3
  go_enter Tryz.func90,Tryz.ntmps90
  go_wp2_with (first
    | (go_at_call 91;go_loud (refine (K1.out _).mono ?_);go_loud (rintro e w1 ⟨rfl,hb1⟩))
    | (go_at_call 97;(with_reducible refine (K2.out _).mono ?_);go_loud (rintro e w2 ⟨rfl,hb2⟩))
    | (go_at_call 97;go_loud (with_reducible refine (K3.out _).mono ?_);go_loud (rintro e w3 ⟨rfl,hb3⟩))
    | fail)
  go_ret
  exact ⟨rfl,bt (bt hb1 hb2) hb3⟩
theorem eqPG0 (a b c d : Int) (x y : ByteArray) (w : World) : (Op.equalIn 10000 27 (.agg #[.int .u8 a,.int .u64 b,.int .u32 c,.int .u32 d,.string x,.string y]) (.agg #[.int .u8 a,.int .u64 b,.int .u32 c,.int .u32 d,.string x,.string y])).run Tryz.prog w = .ok true w:=by
  have hS : Tryz.prog.underlying 27 = some (.struct (Tryz.prog.fieldsOf 27)):=by kernel_rfl
  have hp : Tryz.prog.stoodInHeld 27 = false:=by kernel_rfl
  have hS2 : Tryz.prog.underlying 25 = some (.struct (Tryz.prog.fieldsOf 25)):=by kernel_rfl
  have hp2 : Tryz.prog.stoodInHeld 25 = false:=by kernel_rfl
  rw [show (10000 : Nat) = 9999 + 1 from rfl,run_equalIn_agg w 9999 27 _ _ hS hp]
  simp only [Program.fieldsOf,Tryz.underlying27]
  simp [go_sem,Op.eqFields]
theorem eqPG (a b c d : Int) (x y : ByteArray) (w : World) : (binOp .eql 27 (.agg #[.int .u8 a,.int .u64 b,.int .u32 c,.int .u32 d,.string x,.string y]) (.agg #[.int .u8 a,.int .u64 b,.int .u32 c,.int .u32 d,.string x,.string y])).run Tryz.prog w = .ok (.bool true) w:=by
  rw [run_eql_struct,eqPG0];rfl
theorem guardPG (op : BinOp) (x y : Operand) (xs ys : Array Value) (w : World) : (eqGuard op 27 x y (.agg xs) (.agg ys)).run Tryz.prog w = .ok () w:=run_eqGuard_agg w op 27 x y xs ys (by kernel_rfl)
theorem gG0 : gG pg0:=⟨by decide,by decide,by decide,by decide,by decide⟩
set_option maxRecDepth 100000 in
set_option maxHeartbeats 4000000 in
theorem awake17_any (w : World) : Calls Tryz.prog 53 #[] w fun e w'=>e = .returned (.bool true) ∧ Below w.heap.size w w':=by
  have kp : ∀ w,Calls Tryz.prog 29 #[.agg #[.int .u8 0,.int .u64 0,.int .u32 0,.int .u32 0,.string ⟨#[]⟩,.string ⟨#[]⟩]] w fun e w'=>e = .returned (.tuple #[.string (toB (gprintL crcN pg0)),.agg #[.int .i64 0,.int .i64 0]]) ∧ Below w.heap.size w w':=fun w=>gprint_any pg0 w gG0 (by decide)
  have hl : (gprintL crcN pg0).length = 27:=gprint_len crcN pg0
  have hsz : (toB (gprintL crcN pg0)).size = 27:=by rw [szB,hl]
  have hrest : Rest (⟨toB (gprintL crcN pg0),0,0,0,0⟩ : RS) (gprintL crcN pg0 ++ []):=⟨rfl,Nat.zero_le _,by rw [bl_toB,List.drop_zero,List.append_nil]⟩
  have hback:=(gpar_back crcN crcN_lt pg0 gG0 hrest).2
  have kg : ∀ w r,InX w r ⟨toB (gprintL crcN pg0),0,0,0,0⟩ → Calls Tryz.prog 51 #[.pointer (some ⟨r,0,none⟩)] w fun e w'=>e = .returned (.tuple #[.agg #[.int .u8 0,.int .u64 0,.int .u32 0,.int .u32 0,.string ⟨#[]⟩,.string ⟨#[]⟩],.bool true]) ∧ w.grownBy w' (some r):=fun w r h=>by
    have:=gpar_any w r ⟨toB (gprintL crcN pg0),0,0,0,0⟩ h ⟨Nat.zero_le _,by show (toB (gprintL crcN pg0)).size ≤ _;rw [hsz];decide,Nat.zero_le _⟩
    rw [hback] at this
    exact this.mono fun e w' q=>⟨q.1,q.2.2⟩
  generalize toB (gprintL crcN pg0) = S at *
  have kr:=fun w=>readX_any S w
  have ka:=fun w=>awake16_any w
  have kb : ∀ w,Calls Tryz.prog 18 #[.agg #[.int .i64 0,.int .i64 0]] w fun e w'=>e = .returned (.bool false) ∧ Below w.heap.size w w':=fun w=>bad_any 0 0 w
  have ko : ∀ w,Calls Tryz.prog 67 #[.agg #[.int .u8 0,.int .u64 0,.int .u32 0,.int .u32 0,.string ⟨#[3,255]⟩,.string ⟨#[]⟩]] w fun e w'=>e = .returned (.bool true) ∧ Below w.heap.size w w':=fun w=>gopen_any ⟨0,0,0,0,⟨#[3,255]⟩,⟨#[]⟩⟩ w (by decide)
  have hs27 : (S.size : Int) = 27:=by omega
  have e1:=fun w=>eqPG 0 0 0 0 ⟨#[]⟩ ⟨#[]⟩ w
  have g1:=fun x y w=>guardPG .eql x y #[.int .u8 0,.int .u64 0,.int .u32 0,.int .u32 0,.string ⟨#[]⟩,.string ⟨#[]⟩] #[.int .u8 0,.int .u64 0,.int .u32 0,.int .u32 0,.string ⟨#[]⟩,.string ⟨#[]⟩] w
  have hB:=Below.refl w.heap.size w
  have KP:=Lib.hid kp
  have KG:=Lib.hid kg
  have KR:=Lib.hid kr
  have KA:=Lib.hid ka
  have KB:=Lib.hid kb
  have KO:=Lib.hid ko
  clear kp kg kr ka kb ko
  clear hl hsz hrest hback
  go_enter Tryz.func53,Tryz.ntmps53
  go_wp2_with (first
    | (go_at_call 29;go_loud (refine (KP.out _).mono ?_);go_loud (rintro e w1 ⟨rfl,hb1⟩);go_loud (have hbk:=bal hb1 (.cells #[.int .i64 0,.int .i64 0] 54));go_loud (have KF:=Lib.hid (Live.fresh w1 #[.int .i64 0,.int .i64 0] 54 0 _ rfl));go_loud (have KF1:=Lib.hid (Live.fresh w1 #[.int .i64 0,.int .i64 0] 54 1 _ rfl)))
    | (go_at_call 43;go_loud (refine (KR.out _).mono ?_);go_loud (rintro e w2 ⟨r,rfl,hr,hi,hb2⟩))
    | (go_at_call 51;go_loud (refine (KG.out _ _ hi).mono ?_);go_loud (rintro e w3 ⟨rfl,hg3⟩);go_loud (have hb3:=grown_bel hb2 hg3 hr);go_loud (have hb4:=bal hb3 (.cells #[.int .u8 0,.int .u64 0,.int .u32 0,.int .u32 0,.string ⟨#[]⟩,.string ⟨#[]⟩] 27)))
    | (go_at_call 90;go_loud (refine (KA.out _).mono ?_);go_loud (rintro e w5 ⟨rfl,hb5⟩);go_loud (have hb6:=bt hb4 hb5);go_loud (obtain ⟨f0,_⟩:=KF.out.keep hb6);go_loud (obtain ⟨f1,_⟩:=KF1.out.keep hb6))
    | (go_at_call 18;go_loud (refine (KB.out _).mono ?_);go_loud (rintro e w7 ⟨rfl,hb7⟩);go_loud (have hbp:=bt hb5 hb7);go_loud (obtain ⟨p0,p1,p2,p3,p4,p5⟩:=gvL (blkP (heap_alloc_new w3 (.cells #[.int .u8 0,.int .u64 0,.int .u32 0,.int .u32 0,.string ⟨#[]⟩,.string ⟨#[]⟩] 27)) hbp)))
    | (go_at_call 67;go_loud (refine (KO.out _).mono ?_);go_loud (rintro e w8 ⟨rfl,hb8⟩))
    | fail)
  go_ret
  exact ⟨rfl,bt hbk (bt (bt hb6 hb7) hb8)⟩
def p18 : PG:=⟨0,0,0,0,⟨#[2,1]⟩,⟨#[97,98,99]⟩⟩
theorem ex18a : pagesO 0 (lacesB [⟨#[97,98]⟩,⟨#[99]⟩]).length 0 (lacesB [⟨#[97,98]⟩,⟨#[99]⟩]) (([⟨#[97,98]⟩,⟨#[99]⟩] : List ByteArray).map bl).flatten false = [p18]:=by
  have h1 : lacesB [⟨#[97,98]⟩,⟨#[99]⟩] = [2,1]:=by decide
  rw [h1]
  rfl
theorem ex18b : joinG [p18] 0 false [] [] = ([[97,98],[99]],0,0):=by decide
theorem ex18c : laceL 255 = [255,0]:=by decide
set_option maxRecDepth 100000 in
set_option maxHeartbeats 4000000 in
theorem awake18_any (w : World) : Calls Tryz.prog 54 #[] w fun e w'=>e = .returned (.bool true) ∧ Below w.heap.size w w':=by
  have kp : ∀ (X : World),Calls Tryz.prog 32 #[.agg #[.int .u8 0,.int .u64 0,.int .u32 0,.int .u32 0],.slice (some ⟨X.heap.size,0,none⟩) 2 2] (X.alloc (.cells #[.string ⟨#[97,98]⟩,.string ⟨#[99]⟩] 9)) (PPost [p18] (X.alloc (.cells #[.string ⟨#[97,98]⟩,.string ⟨#[99]⟩] 9))):=fun X=>by
    have h1:=own_lit (n:=2) (s:=1) (heap_alloc_new X (.cells #[.string ⟨#[97,98]⟩,.string ⟨#[99]⟩] 9)) rfl (by decide)
    have:=ppages_any 0 0 [⟨#[97,98]⟩,⟨#[99]⟩] X.heap.size _ _ h1 (by simp) (by show 2 ≤ _;decide) (fun t ht=>by
      simp only [List.mem_cons,List.not_mem_nil,or_false] at ht
      rcases ht with rfl | rfl <;> decide) (by decide) (by decide)
    rw [ex18a] at this
    exact this
  unfold PPost at kp
  have kj : ∀ (v : Value) (w : World),Row w v 1 (gcells [p18]) → Calls Tryz.prog 68 #[v] w (JoinPost ([[97,98],[99]],0,0) w):=fun v w h=>by
    have:=gjoin_any v [p18] w h (by decide) (fun p hp=>by simp at hp;subst hp;exact ⟨by decide,by decide⟩)
    rw [ex18b] at this
    exact this
  unfold JoinPost at kj
  simp only [List.length_cons,List.length_nil,Nat.zero_add,Nat.reduceAdd] at kp kj
  have ka:=fun w=>awake17_any w
  have kb : ∀ w,Calls Tryz.prog 18 #[.agg #[.int .i64 0,.int .i64 0]] w fun e w'=>e = .returned (.bool false) ∧ Below w.heap.size w w':=fun w=>bad_any 0 0 w
  have kl : ∀ w,Calls Tryz.prog 64 #[.int .i64 255] w fun e w'=>e = .returned (.string ⟨#[255,0]⟩) ∧ Below w.heap.size w w':=fun w=>by
    have:=glace_any 255 w (by decide)
    rw [ex18c] at this
    exact this
  have HS1 : ((⟨#[255,0]⟩ : ByteArray).toList == (⟨#[255,0]⟩ : ByteArray).toList) = true:=by simp
  have KP:=Lib.hid kp
  have KJ:=Lib.hid kj
  have KA:=Lib.hid ka
  have KB:=Lib.hid kb
  have KL:=Lib.hid kl
  clear kp kj ka kb kl
  go_enter Tryz.func54,Tryz.ntmps54
  go_wp2_with (first
    | (go_at_call 32;go_loud (refine (KP.out _).mono ?_);go_loud (rintro e w1 ⟨hb1,v1,rfl,ho1⟩);go_loud (obtain ⟨g1,c1,rfl,_⟩:=orow_some ho1 (by decide));go_loud (have hbk:=bt (bal (Below.refl w.heap.size w) _) hb1))
    | (go_at_call 68;go_loud (refine (KJ.out _ _ (row_owns ho1)).mono ?_);go_loud (rintro e w2 ⟨hb2,v2,rfl,ho2⟩);go_loud (obtain ⟨g2,c2,rfl,_⟩:=orow_some ho2 (by decide));go_loud (have hb3:=bal hb2 (.cells #[.int .i64 0,.int .i64 0] 54));go_loud (have hx2:=bal (Below.refl w2.heap.size w2) (.cells #[.int .i64 0,.int .i64 0] 54));go_loud (have KF:=Lib.hid (Live.fresh w2 #[.int .i64 0,.int .i64 0] 54 0 _ rfl));go_loud (have KF1:=Lib.hid (Live.fresh w2 #[.int .i64 0,.int .i64 0] 54 1 _ rfl)))
    | (go_at_call 53;go_loud (refine (KA.out _).mono ?_);go_loud (rintro e w5 ⟨rfl,hb5⟩))
    | (go_at_call 64;go_loud (refine (KL.out _).mono ?_);go_loud (rintro e w6 ⟨rfl,hb6⟩);go_loud (have hb7:=bt hb5 hb6);go_loud (obtain ⟨f0,_⟩:=KF.out.keep hb7);go_loud (obtain ⟨f1,_⟩:=KF1.out.keep hb7);go_loud (obtain ⟨gg,eg,z0,z1,z2,z3,z4,z5⟩:=row_first (orow_bel ho1 (bt hb3 hb7)) (by decide));go_loud (simp only [Option.some.injEq,Addr.mk.injEq,and_true] at eg);go_loud (subst eg);go_loud (obtain ⟨g3,eg,y0,y1⟩:=row_two' (orow_bel ho2 (bt hx2 hb7)) (by decide));go_loud (simp only [Option.some.injEq,Addr.mk.injEq,and_true] at eg);go_loud (subst eg);go_loud (rw [show p18.la = ⟨#[2,1]⟩ from rfl] at z4);go_loud (rw [show toB [99] = ⟨#[99]⟩ from rfl] at y1))
    | (go_at_call 18;go_loud (refine (KB.out _).mono ?_);go_loud (rintro e w8 ⟨rfl,hb8⟩))
    | fail)
  go_ret
  exact ⟨rfl,bt hbk (bt (bt hb3 hb7) hb8)⟩
end Go.Proofs.YtnbglcaeekppjaaGreatDoor

namespace Go.Proofs.YtnbglcaeekppjaaGreatDoor
open Go.RowKit
set_option linter.unusedVariables false
set_option linter.unusedSimpArgs false

def f20 : PG:=⟨2,0,0,0,⟨#[7]⟩,⟨#[1,118,111,114,98,105,115]⟩⟩
def exS : OS:=⟨f20,⟨⟨#[]⟩,0,[]⟩,⟨#[5,118,111,114,98,105,115]⟩,[]⟩
def m20 : PG:=⟨0,0,0,1,⟨#[16,7]⟩,⟨#[3,118,111,114,98,105,115,0,0,0,0,0,0,0,0,1,5,118,111,114,98,105,115]⟩⟩
theorem ex20a : ocheckM exS = (0,0):=by decide +kernel
theorem ex20b : midO exS = [m20]:=by kernel_rfl
theorem ex20c : opagesL exS = [f20,m20]:=by
  unfold opagesL
  rw [ex20b]
  rfl
theorem ex20d : okO exS:=⟨⟨⟨by decide,by decide,by decide,by decide,by decide⟩,(fun p hp=>by cases hp)⟩,ex20a,by decide,by decide,(fun n hn=>by cases hn),by rw [ex20c];decide⟩
theorem ex20e : smOS exS:=⟨⟨by decide,by decide,(fun n hn=>by cases hn)⟩,⟨by decide,by decide⟩,by decide,by decide,(fun p hp=>by cases hp)⟩
theorem ex20f : bigO exS:=⟨by decide,by decide,by decide⟩
theorem row_at1 {w : World} {B g cap : Nat} (h : w.ownsRow B 27 6 (.slice (some ⟨g,0,none⟩) 2 cap) 2 (gcells [f20,m20])) : w.cell? ⟨g,10,none⟩ = some (.string ⟨#[16,7]⟩):=by
  obtain ⟨g',c',hv,_,_,_,hc⟩:=orow_parts h (by decide)
  simp only [Value.slice.injEq,Option.some.injEq,Addr.mk.injEq,and_true] at hv
  obtain ⟨rfl,_⟩:=hv
  have:=hc 10 _ rfl
  rw [Nat.zero_add] at this
  exact this
set_option maxRecDepth 100000 in
set_option maxHeartbeats 8000000 in
theorem awake20_any (w : World) (hT : TW w) : Calls Tryz.prog 23 #[] w fun e w'=>e = .returned (.bool true) ∧ Below w.heap.size w w':=by
  have kpg : ∀ w',TW w' → Calls Tryz.prog 11 #[.agg #[.int .u8 2,.int .u64 0,.int .u32 0,.int .u32 0,.string ⟨#[7]⟩,.string ⟨#[1,118,111,114,98,105,115]⟩,.string ⟨#[]⟩,.int .i64 0,.slice none 0 0,.string ⟨#[5,118,111,114,98,105,115]⟩,.slice none 0 0]] w' (OPagesPost [f20,m20] (0,0) w'):=fun w' hT'=>by
    have:=opagesW_good (.slice none 0 0) (.slice none 0 0) exS w' hT' ⟨Row.nil _,Row.nil _⟩ ex20e ex20d ex20f
    rw [ex20c] at this
    exact this
  unfold OPagesPost at kpg
  have kpr : ∀ w',TW w' → Calls Tryz.prog 10 #[.agg #[.int .u8 2,.int .u64 0,.int .u32 0,.int .u32 0,.string ⟨#[7]⟩,.string ⟨#[1,118,111,114,98,105,115]⟩,.string ⟨#[]⟩,.int .i64 0,.slice none 0 0,.string ⟨#[5,118,111,114,98,105,115]⟩,.slice none 0 0]] w' fun e w''=>e = .returned (.tuple #[.string (toB (oprintL crcN exS)),.agg #[.int .i64 0,.int .i64 0]]) ∧ Below w'.heap.size w' w'':=fun w' hT'=>oprint_good (.slice none 0 0) (.slice none 0 0) exS w' hT' ⟨Row.nil _,Row.nil _⟩ ex20e ex20d ex20f
  have hsz : (toB (oprintL crcN exS)).size ≤ 1048576:=by
    have h:=flat_pages (opagesL exS) (opages_good ex20d)
    rw [ex20c] at h
    rw [szB]
    unfold oprintL
    rw [ex20c]
    simp only [List.length_cons,List.length_nil] at h
    omega
  have kpa : ∀ w',TW w' → Calls Tryz.prog 16 #[.string (toB (oprintL crcN exS)),.agg #[.int .i64 0,.int .i64 0,.bool false,.int .i64 0]] w' fun e w''=>Below w'.heap.size w' w'' ∧ ∃ (an : Option Addr) (cn : Nat) (as_ : Option Addr) (cs_ : Nat),e = .returned (.tuple #[.agg #[.int .u8 2,.int .u64 0,.int .u32 0,.int .u32 0,.string ⟨#[7]⟩,.string ⟨#[1,118,111,114,98,105,115]⟩,.string ⟨#[]⟩,.int .i64 7,.slice an 0 cn,.string ⟨#[5,118,111,114,98,105,115]⟩,.slice as_ 0 cs_],.agg #[.int .i64 0,.int .i64 0]]):=fun w' hT'=>by
    have:=oparse_any (toB (oprintL crcN exS)) 0 0 0 false w' hT' hsz
    rw [show toB (oprintL crcN exS) = ⟨(oprintL crcN exS).toArray⟩ from rfl,opar_back crcN (RM 0 false) crcN_lt (RM_utf 0 false) exS ex20d] at this
    refine this.mono ?_
    rintro e w'' ⟨hb,vn,vs,he,h1,h2⟩
    obtain ⟨an,cn,rfl⟩:=orow_form h1
    obtain ⟨as_,cs_,rfl⟩:=orow_form h2
    exact ⟨hb,an,cn,as_,cs_,he⟩
  generalize toB (oprintL crcN exS) = PS at *
  have k17:=fun w=>awake17_any w
  have k18:=fun w=>awake18_any w
  have k19:=fun w hT=>awake19_any w hT
  have kb : ∀ w,Calls Tryz.prog 18 #[.agg #[.int .i64 0,.int .i64 0]] w fun e w'=>e = .returned (.bool false) ∧ Below w.heap.size w w':=fun w=>bad_any 0 0 w
  have e1:=fun w=>eqPG 2 0 0 0 ⟨#[7]⟩ ⟨#[1,118,111,114,98,105,115]⟩ w
  have g1:=fun x y w=>guardPG .eql x y #[.int .u8 2,.int .u64 0,.int .u32 0,.int .u32 0,.string ⟨#[7]⟩,.string ⟨#[1,118,111,114,98,105,115]⟩] #[.int .u8 2,.int .u64 0,.int .u32 0,.int .u32 0,.string ⟨#[7]⟩,.string ⟨#[1,118,111,114,98,105,115]⟩] w
  have hb0:=bal (Below.refl w.heap.size w) (.cells #[.int .u8 2,.int .u64 0,.int .u32 0,.int .u32 0,.string ⟨#[7]⟩,.string ⟨#[1,118,111,114,98,105,115]⟩,.string ⟨#[]⟩,.int .i64 0,.slice none 0 0,.string ⟨#[5,118,111,114,98,105,115]⟩,.slice none 0 0] 36)
  have KS:=Lib.hid (heap_alloc_new w (.cells #[.int .u8 2,.int .u64 0,.int .u32 0,.int .u32 0,.string ⟨#[7]⟩,.string ⟨#[1,118,111,114,98,105,115]⟩,.string ⟨#[]⟩,.int .i64 0,.slice none 0 0,.string ⟨#[5,118,111,114,98,105,115]⟩,.slice none 0 0] 36))
  simp only [List.length_cons,List.length_nil,Nat.zero_add,Nat.reduceAdd] at kpg
  have KPG:=Lib.hid kpg
  have KPR:=Lib.hid kpr
  have KPA:=Lib.hid kpa
  have K17:=Lib.hid k17
  have K18:=Lib.hid k18
  have K19:=Lib.hid k19
  have KB:=Lib.hid kb
  have HT:=Lib.hid hT
  have HB0:=Lib.hid hb0
  clear kpg kpr kpa k17 k18 k19 kb hT hb0
  clear hsz
  go_enter Tryz.func23,Tryz.ntmps23
  go_wp2_with (first
    | (go_at_call 11;go_loud (refine (KPG.out _ (HT.out.bel HB0.out)).mono ?_);go_loud (rintro e w1 ⟨hb1,v1,rfl,ho1⟩);go_loud (obtain ⟨g1,c1,rfl,_⟩:=orow_some ho1 (by decide));go_loud (have hx1:=bal hb1 (.cells #[.int .i64 0,.int .i64 0] 54));go_loud (have hw1:=bal (Below.refl w1.heap.size w1) (.cells #[.int .i64 0,.int .i64 0] 54));go_loud (have F10:=Lib.hid (Live.fresh w1 #[.int .i64 0,.int .i64 0] 54 0 _ rfl));go_loud (have F11:=Lib.hid (Live.fresh w1 #[.int .i64 0,.int .i64 0] 54 1 _ rfl));go_loud (obtain ⟨s0,_⟩:=live_of (blkP KS.out hx1) 0 _ rfl);go_loud (obtain ⟨s1,_⟩:=live_of (blkP KS.out hx1) 1 _ rfl);go_loud (obtain ⟨s2,_⟩:=live_of (blkP KS.out hx1) 2 _ rfl);go_loud (obtain ⟨s3,_⟩:=live_of (blkP KS.out hx1) 3 _ rfl);go_loud (obtain ⟨s4,_⟩:=live_of (blkP KS.out hx1) 4 _ rfl);go_loud (obtain ⟨s5,_⟩:=live_of (blkP KS.out hx1) 5 _ rfl);go_loud (obtain ⟨s6,_⟩:=live_of (blkP KS.out hx1) 6 _ rfl);go_loud (obtain ⟨s7,_⟩:=live_of (blkP KS.out hx1) 7 _ rfl);go_loud (obtain ⟨s8,_⟩:=live_of (blkP KS.out hx1) 8 _ rfl);go_loud (obtain ⟨s9,_⟩:=live_of (blkP KS.out hx1) 9 _ rfl);go_loud (obtain ⟨s10,_⟩:=live_of (blkP KS.out hx1) 10 _ rfl))
    | (go_at_call 10;go_loud (refine (KPR.out _ (HT.out.bel (bt HB0.out hx1))).mono ?_);go_loud (rintro e w2 ⟨rfl,hb2⟩);go_loud (have hx2:=bal hb2 (.cells #[.int .i64 0,.int .i64 0] 54));go_loud (have F20:=Lib.hid (Live.fresh w2 #[.int .i64 0,.int .i64 0] 54 0 _ rfl));go_loud (have F21:=Lib.hid (Live.fresh w2 #[.int .i64 0,.int .i64 0] 54 1 _ rfl)))
    | (go_at_call 16;go_loud (refine (KPA.out _ (HT.out.bel (bt (bt HB0.out hx1) hx2))).mono ?_);go_loud (rintro e w3 ⟨hb3,an,cn,as_,cs_,rfl⟩);go_loud (have hx3:=bal (bal hb3 (.cells #[.int .u8 2,.int .u64 0,.int .u32 0,.int .u32 0,.string ⟨#[7]⟩,.string ⟨#[1,118,111,114,98,105,115]⟩,.string ⟨#[]⟩,.int .i64 7,.slice an 0 cn,.string ⟨#[5,118,111,114,98,105,115]⟩,.slice as_ 0 cs_] 36)) (.cells #[.int .i64 0,.int .i64 0] 54));go_loud (have KT:=Lib.hid (blkP (heap_alloc_new w3 (.cells #[.int .u8 2,.int .u64 0,.int .u32 0,.int .u32 0,.string ⟨#[7]⟩,.string ⟨#[1,118,111,114,98,105,115]⟩,.string ⟨#[]⟩,.int .i64 7,.slice an 0 cn,.string ⟨#[5,118,111,114,98,105,115]⟩,.slice as_ 0 cs_] 36)) (bal (Below.refl _ _) (.cells #[.int .i64 0,.int .i64 0] 54))));go_loud (have F3:=heap_alloc_new (w3.alloc (.cells #[.int .u8 2,.int .u64 0,.int .u32 0,.int .u32 0,.string ⟨#[7]⟩,.string ⟨#[1,118,111,114,98,105,115]⟩,.string ⟨#[]⟩,.int .i64 7,.slice an 0 cn,.string ⟨#[5,118,111,114,98,105,115]⟩,.slice as_ 0 cs_] 36)) (.cells #[.int .i64 0,.int .i64 0] 54));go_loud (rw [World.size_alloc] at F3);go_loud (have HF3:=Lib.hid F3);go_loud (clear F3);go_loud (have hall:=bt (bt (bt HB0.out hx1) hx2) hx3))
    | (go_at_call 53;go_loud (refine (K17.out _).mono ?_);go_loud (rintro e w5 ⟨rfl,hb5⟩))
    | (go_at_call 54;go_loud (refine (K18.out _).mono ?_);go_loud (rintro e w6 ⟨rfl,hb6⟩);go_loud (have hb56:=bt hb5 hb6))
    | (go_at_call 55;go_loud (refine (K19.out _ (HT.out.bel (bt hall hb56))).mono ?_);go_loud (rintro e w7 ⟨rfl,hb7⟩);go_loud (have hbz:=bt hb56 hb7);go_loud (have hbz2:=bt hx3 hbz);go_loud (have hbz1:=bt hx2 hbz2);go_loud (obtain ⟨f10,_⟩:=F10.out.keep hbz1);go_loud (obtain ⟨f11,_⟩:=F11.out.keep hbz1);go_loud (obtain ⟨f20_,_⟩:=F20.out.keep hbz2);go_loud (obtain ⟨f21_,_⟩:=F21.out.keep hbz2);go_loud (obtain ⟨f30,_⟩:=live_of (blkP HF3.out hbz) 0 _ rfl);go_loud (obtain ⟨f31,_⟩:=live_of (blkP HF3.out hbz) 1 _ rfl);go_loud (have z4:=(row_at1 (orow_bel ho1 (bt hw1 hbz1)))))
    | (go_at_call 18;go_loud (refine (KB.out _).mono ?_);go_loud (rintro e w8 ⟨rfl,hb8⟩);go_loud (replace hbz:=bt hbz hb8);go_loud (replace hbz2:=bt hx3 hbz);go_loud (replace hbz1:=bt hx2 hbz2);go_loud (clear f20_ f21_ f30 f31 hb8);go_loud (obtain ⟨f20_,_⟩:=F20.out.keep hbz2);go_loud (obtain ⟨f21_,_⟩:=F21.out.keep hbz2);go_loud (obtain ⟨f30,_⟩:=live_of (blkP HF3.out hbz) 0 _ rfl);go_loud (obtain ⟨f31,_⟩:=live_of (blkP HF3.out hbz) 1 _ rfl);go_loud (obtain ⟨t0,_⟩:=live_of (blkP KT.out hbz) 0 _ rfl);go_loud (obtain ⟨t1,_⟩:=live_of (blkP KT.out hbz) 1 _ rfl);go_loud (obtain ⟨t2,_⟩:=live_of (blkP KT.out hbz) 2 _ rfl);go_loud (obtain ⟨t3,_⟩:=live_of (blkP KT.out hbz) 3 _ rfl);go_loud (obtain ⟨t4,_⟩:=live_of (blkP KT.out hbz) 4 _ rfl);go_loud (obtain ⟨t5,_⟩:=live_of (blkP KT.out hbz) 5 _ rfl);go_loud (obtain ⟨t9,_⟩:=live_of (blkP KT.out hbz) 9 _ rfl);go_loud (obtain ⟨s0,_⟩:=live_of (blkP KS.out (bt hx1 hbz1)) 0 _ rfl);go_loud (obtain ⟨s1,_⟩:=live_of (blkP KS.out (bt hx1 hbz1)) 1 _ rfl);go_loud (obtain ⟨s2,_⟩:=live_of (blkP KS.out (bt hx1 hbz1)) 2 _ rfl);go_loud (obtain ⟨s3,_⟩:=live_of (blkP KS.out (bt hx1 hbz1)) 3 _ rfl);go_loud (obtain ⟨s4,_⟩:=live_of (blkP KS.out (bt hx1 hbz1)) 4 _ rfl);go_loud (obtain ⟨s5,_⟩:=live_of (blkP KS.out (bt hx1 hbz1)) 5 _ rfl);go_loud (obtain ⟨s9,_⟩:=live_of (blkP KS.out (bt hx1 hbz1)) 9 _ rfl))
    | fail)
  go_ret
  exact ⟨rfl,bt hall hbz⟩
end Go.Proofs.YtnbglcaeekppjaaGreatDoor

namespace Go.Proofs.YtnbglcaeekppjaaGreatDoor
open Go.RowKit
set_option linter.unusedVariables false
set_option linter.unusedSimpArgs false

theorem flat_gsz (crc : List UInt8 → Nat) : ∀ l : List PG,(l.flatMap (gprintL crc)).length = (l.map gsz).sum
  | []=>rfl
  | p :: r=>by
    rw [List.flatMap_cons,List.length_append,gprint_len,flat_gsz crc r,List.map_cons,List.sum_cons]
    rfl
theorem sum_drop : ∀ (l : List PG) (k : Nat),((l.drop k).map gsz).sum ≤ (l.map gsz).sum
  | [],k=>by simp
  | p :: r,0=>by simp
  | p :: r,k + 1=>by
    have:=sum_drop r k
    simp only [List.drop_succ_cons,List.map_cons,List.sum_cons]
    omega
theorem renum_sum : ∀ (l : List PG) (n : Nat),((renumL n l).map gsz).sum = (l.map gsz).sum
  | [],n=>rfl
  | p :: r,n=>by
    rw [renumL,List.map_cons,List.sum_cons,renum_sum r,List.map_cons,List.sum_cons]
    rfl
theorem pagesO_sum (se : Nat) : ∀ (f nu : Nat) (la bo : List UInt8) (op : Bool),((pagesO se f nu la bo op).map gsz).sum ≤ 28 * la.length + bo.length:=by
  intro f
  induction f with
  | zero=>intro nu la bo op;rw [pagesO];exact Nat.zero_le _
  | succ f ih=>
    intro nu la bo op
    rw [pagesO]
    split
    · exact Nat.zero_le _
    · next h=>
      have h1:=ih (nu + 1) (la.drop 255) (bo.drop (totL (la.take 255))) (openL op (la.take 255))
      have h2 : 0 < la.length:=List.length_pos_iff.2 h
      have h3 : gsz (pageO se nu (la.take 255) (bo.take (totL (la.take 255))) op) = 27 + (la.take 255).length + (bo.take (totL (la.take 255))).length:=by
        unfold gsz pageO
        simp only
        rw [szL,szL]
      rw [List.map_cons,List.sum_cons,h3]
      simp only [List.length_take,List.length_drop] at h1 ⊢
      omega
theorem opar_sum {crc : List UInt8 → Nat} {R : List UInt8 → Int} (s : ByteArray) (h : (oparM crc R s).2.1 = 0) : gsz (oparM crc R s).1.first + ((oparM crc R s).1.sound.map gsz).sum ≤ s.size:=by
  obtain ⟨p0,r,at_,ps,k,b,q1,q2,_,_,_,_,_,_,_,he⟩:=opar_form (crc:=crc) (R:=R) s h
  rw [he]
  have:=sum_drop r k
  rw [List.map_cons,List.sum_cons] at q2
  simp only
  omega
structure OSm (S : OS) : Prop where
  ok : okO S
  sm : smOS S
  big : bigO S
  g1 : okG S.first
  g2 : ∀ p ∈ S.sound,okG p
  nl : S.b.ns.length ≤ 1000000
  sl : S.sound.length ≤ 1900000
theorem opar_small {crc : List UInt8 → Nat} {R : List UInt8 → Int} (s : ByteArray) (hs : s.size ≤ 4000) (h : (oparM crc R s).2.1 = 0) : OSm (oparM crc R s).1 ∧ (oparM crc R s).2.2 = 0 ∧ (oprintL crc (oparM crc R s).1).length ≤ 1048576:=by
  obtain ⟨g1,g2,g3,g4,g5,g6,g7,g8⟩:=opar_good (crc:=crc) (R:=R) s (by omega) h
  have h1:=opar_sum s h
  generalize (oparM crc R s).1 = S at *
  obtain ⟨⟨a1,a2⟩,a3,a4,a5,a6,a7⟩:=g1
  refine ⟨⟨⟨⟨a1,a2⟩,a3,a4,a5,a6,a7⟩,⟨⟨by omega,by omega,fun n hn=>⟨by have:=(a6 n hn).1;omega,by have:=(a6 n hn).2;omega⟩⟩,⟨by have:=a1.1;omega,by omega⟩,by omega,by omega,fun p hp=>⟨by have:=(a2 p hp).1;omega,by have:=g6 p hp;omega⟩⟩,⟨by omega,by omega,by omega⟩,a1.2.2,fun p hp=>(a2 p hp).2.2,by omega,by omega⟩,g2,?_⟩
  unfold oprintL
  rw [flat_gsz]
  unfold opagesL
  rw [List.map_append,List.sum_append,List.map_cons,List.sum_cons,renum_sum]
  have h2 : ((midO S).map gsz).sum ≤ 28 * (lacesO S).length + (pktsO S).flatten.length:=pagesO_sum _ _ _ _ _ _
  have h3 : (lacesO S).length ≤ 2 + (7 + (printL true S.b).length) / 255 + S.setup.size / 255:=by
    unfold lacesO pktsO laceL
    simp only [List.flatMap_cons,List.flatMap_nil,List.append_nil,List.length_append,List.length_replicate,List.length_cons,List.length_nil,vorb_len,bl_length]
    omega
  have h4 : (pktsO S).flatten.length = 7 + (printL true S.b).length + S.setup.size:=by
    unfold pktsO
    simp only [List.flatten_cons,List.flatten_nil,List.append_nil,List.length_append,vorb_len,bl_length]
  omega
theorem osm_back {S : OS} (h : OSm S) : OSm (backO S):=by
  have hk:=back_ok h.ok
  have hp : (printL true (utfBk S.b)).length ≤ 8000000:=by rw [print_utf];exact h.big.1
  obtain ⟨⟨a1,a2⟩,a3,a4,a5,a6,a7⟩:=hk
  have hs : ∀ p ∈ (backO S).sound,p.la.size ≤ 1073741824 ∧ p.bo.size ≤ 1073741824:=by
    intro p hp
    obtain ⟨k,hk⟩:=List.getElem?_of_mem hp
    obtain ⟨q,hq,rfl⟩:=renum_at _ _ _ _ hk
    exact h.sm.2.2.2.2 q (List.mem_of_getElem? hq)
  have hl : (backO S).b.ns.length = S.b.ns.length:=by show (utfBk S.b).ns.length = _;simp [utfBk]
  have hsl : (backO S).sound.length = S.sound.length:=renum_len _ _
  have hnl:=h.nl
  have hsl2:=h.sl
  exact ⟨⟨⟨a1,a2⟩,a3,a4,a5,a6,a7⟩,⟨⟨by omega,by omega,fun n hn=>⟨by have:=(a6 n hn).1;omega,by have:=(a6 n hn).2;omega⟩⟩,h.sm.2.1,h.sm.2.2.1,by omega,hs⟩,⟨hp,h.big.2.1,by omega⟩,a1.2.2,fun p hp=>(a2 p hp).2.2,by omega,by omega⟩
end Go.Proofs.YtnbglcaeekppjaaGreatDoor

