/- Ym -/
import Derived.Test.YtagjkmkmphamoaaGreatDoorPYl
set_option linter.all false
set_option maxHeartbeats 16000000
namespace Go.Proofs.YtagjkmkmphamoaaGreatDoor
open Go.RowKit
theorem kq4(l:List PG):(rgcells l).length=l.length*6:=by
 induction l with
 | nil=>rfl
 | cons q r ih=>
  unfold rgcells at ih ⊢;rw[List.flatMap_cons,List.length_append,ih,List.length_cons];show 6+r.length*6=(r.length+1)*6;omega
theorem qg4(l:List PG):∀u∈rgcells l,u.oneCell'=true:=by
 intro u hu;unfold rgcells at hu;obtain⟨p,_,hm⟩:=List.mem_flatMap.1 hu;simp only[rgC,List.mem_cons,List.not_mem_nil,or_false]at hm;rcases hm with rfl|rfl|rfl|rfl|rfl|rfl<;>rfl
set_option maxRecDepth 100000 in
theorem kd4(vn vs:Value)(s:OS)(w:World)(hrow:RoRow w vn vs s)(hok:smOS s)(ho:okO s)(hbig:bigO s)(hnl:s.b.ns.length≤1000)(hsm:∀n∈s.b.ns,n.name.size≤1000∧n.text.size≤1000)(hvt:s.b.vt.size≤1000):
 Calls Tryz.prog 12 #[.agg (roC vn vs s)] w (RGPost (opagesL s) w):=by
 have hrn:=hrow.1;obtain⟨⟨an,cn,rfl,_⟩,⟨as_,cs_,rfl,hc⟩⟩:=hrow;obtain⟨n,hn⟩:∃n,n=s.sound.length:=⟨_,rfl⟩;rw[←hn];unfold RGPost;show Calls Tryz.prog 12 #[.agg #[.int .i64 s.first.fl.toNat,.int .u64 s.first.po,.int .u64 s.first.se,.int .u64 s.first.nu,.string s.first.la,.string s.first.bo,.string ⟨#[]⟩,.string s.b.vt,.int .i64 s.b.vs,.slice an s.b.ns.length cn,.string s.setup,.slice as_ n cs_]] w _;obtain⟨og,oc,_,_,_,ol⟩:=ho;have kp:∀w',Below w.heap.size w w'→Calls Tryz.prog 35 #[.agg #[.string ⟨#[]⟩,.string s.b.vt,.int .i64 s.b.vs,.slice an s.b.ns.length cn],.bool true] w' fun e w''=>e=.returned (.string (toB (printL true s.b)))∧Below w'.heap.size w' w'':=fun w' hb=>vf7 _ s.b true w' (hrn.keep hb) hok.1 hnl hsm hvt
 have hle:(toB (printL true s.b)).size≤8000000:=by rw[szB];exact hbig.1
 have hpa:(⟨#[3,118,111,114,98,105,115]⟩:ByteArray)++toB (printL true s.b)=pkA s:=by
  unfold pkA;rw[←qd9]
  rfl
 have kpp:∀(X:World) (a:Nat),X.heap[a]?=some (.cells #[.string (pkA s),.string s.setup] 9 (0,0))→Calls Tryz.prog 34 #[.agg #[.int .i64 0,.int .u64 0,.int .u64 s.first.se,.int .u64 1,.string ⟨#[]⟩,.string ⟨#[]⟩],.slice (some ⟨a,0,none⟩) 2 2] X (RGPost (midO s) X):=fun X a h=>by
  have h1:=jc2 (jm3 (n:=2) (s:=1) h rfl (by decide));have hpk:(pkA s).size≤8000007:=by
   unfold pkA;rw[szB,List.length_append,kf5];have:=hbig.1;omega
  have:=qg3 s.first.se [pkA s,s.setup] _ X h1 (by simp) (fun t ht=>by
   simp only[List.mem_cons,List.not_mem_nil,or_false]at ht;rcases ht with rfl|rfl
   · omega
   · have:=hbig.2.1;omega) og.1.2.2.2.1
  rw[vv7]at this;exact this
 generalize toB (printL true s.b)=PL at *;have hpo:(⟨#[3,118,111,114,98,105,115]⟩:ByteArray).size+PL.size≤9223372036854775807:=by
  have:(⟨#[3,118,111,114,98,105,115]⟩:ByteArray).size=7:=rfl;omega
 have hp7:¬9223372036854775807<7+PL.size:=by omega
 obtain⟨W,hW⟩:∃W,W=w.alloc (.cells #[.int .i64 s.first.fl.toNat,.int .u64 s.first.po,.int .u64 s.first.se,.int .u64 s.first.nu,.string s.first.la,.string s.first.bo,.string ⟨#[]⟩,.string s.b.vt,.int .i64 s.b.vs,.slice an s.b.ns.length cn,.string s.setup,.slice as_ n cs_] 48):=⟨_,rfl⟩;have hbW:Below w.heap.size w W:=by rw[hW];exact bal (Below.refl _ _) _
 have HWZ:Hid (W.heap.size=w.heap.size+1):=Lib.hid (by rw[hW,World.size_alloc]);have B0:W.heap[w.heap.size]?=some (.cells #[.int .i64 s.first.fl.toNat,.int .u64 s.first.po,.int .u64 s.first.se,.int .u64 s.first.nu,.string s.first.la,.string s.first.bo,.string ⟨#[]⟩,.string s.b.vt,.int .i64 s.b.vs,.slice an s.b.ns.length cn,.string s.setup,.slice as_ n cs_] 48 (0,0)):=by rw[hW];exact heap_alloc_new _ _
 have hml:(midO s).length≠0:=by
  have:=(kt3 s);omega
 have hlo:(midO s).length≤1048576:=by
  unfold opagesL at ol;simp only[List.cons_append,List.length_cons,List.length_append]at ol;omega
 have HML:=Lib.hid hml;have HMA:Hid (1+(midO s).length≤70368744177664):=Lib.hid (by omega);have HMB:Hid ((1+(midO s).length)*64≤140737488355328):=Lib.hid (by omega);have HGC:Hid (#[.int .i64 s.first.fl.toNat,.int .u64 s.first.po,.int .u64 s.first.se,.int .u64 s.first.nu,.string s.first.la,.string s.first.bo].toList++rgcells (midO s)=rgcells (s.first::midO s)):=Lib.hid rfl;have HOL:=Lib.hid ol;have HN:=Lib.hid hn;have HC:=Lib.hid hc;have KP:=Lib.hid kp;have KPP:=Lib.hid kpp;have HBW:=Lib.hid hbW;have HB0:=Lib.hid B0;clear kp kpp hbW B0;clear hml hlo ol hn hc oc og hok hbig hrn hnl hsm hvt hle;obtain⟨x0,_⟩:=jb0 (HB0.out) 0 _ rfl;obtain⟨x1,_⟩:=jb0 (HB0.out) 1 _ rfl;obtain⟨x2,_⟩:=jb0 (HB0.out) 2 _ rfl;obtain⟨x3,_⟩:=jb0 (HB0.out) 3 _ rfl;obtain⟨x4,_⟩:=jb0 (HB0.out) 4 _ rfl;obtain⟨x5,_⟩:=jb0 (HB0.out) 5 _ rfl;obtain⟨x6,_⟩:=jb0 (HB0.out) 6 _ rfl;obtain⟨x7,_⟩:=jb0 (HB0.out) 7 _ rfl;obtain⟨x8,_⟩:=jb0 (HB0.out) 8 _ rfl;obtain⟨x9,_⟩:=jb0 (HB0.out) 9 _ rfl;obtain⟨x10,_⟩:=jb0 (HB0.out) 10 _ rfl;obtain⟨x11,_⟩:=jb0 (HB0.out) 11 _ rfl
 go_enter Tryz.func12,Tryz.ntmps12
 go_wp2_with fail
 rw[←hW];clear hW
 go_upto_region 2 with fail
 obtain⟨W8,hW8⟩:∃W8,W8=W.alloc (.cells #[.int .i64 s.first.fl.toNat,.int .u64 s.first.po,.int .u64 s.first.se,.int .u64 s.first.nu,.string s.first.la,.string s.first.bo] 40):=⟨_,rfl⟩;have hb8:=bal (Below.refl W.heap.size W) (.cells #[.int .i64 s.first.fl.toNat,.int .u64 s.first.po,.int .u64 s.first.se,.int .u64 s.first.nu,.string s.first.la,.string s.first.bo] 40);have hf8:=heap_alloc_new W (.cells #[.int .i64 s.first.fl.toNat,.int .u64 s.first.po,.int .u64 s.first.se,.int .u64 s.first.nu,.string s.first.la,.string s.first.bo] 40);rw[←hW8]at hb8 hf8 ⊢;have hWz:=HWZ.out;rw[hWz]at hf8;have HB8:=Lib.hid (blkP HB0.out hb8);have HWL:Hid (w.heap.size<w.heap.size+1):=Lib.hid (Nat.lt_succ_self _);have KSA:Hid (∀wz,Below W8.heap.size W8 wz→wz.cell? ⟨w.heap.size,2,none⟩=some (.int .u64 s.first.se)∧wz.cell? ⟨w.heap.size,6,none⟩=some (.string ⟨#[]⟩)∧wz.cell? ⟨w.heap.size,7,none⟩=some (.string s.b.vt)∧wz.cell? ⟨w.heap.size,8,none⟩=some (.int .i64 s.b.vs)∧wz.cell? ⟨w.heap.size,9,none⟩=some (.slice an s.b.ns.length cn)∧wz.cell? ⟨w.heap.size,10,none⟩=some (.string s.setup)):=Lib.hid fun wz hb=>⟨kc hb (jb0 HB8.out 2 _ rfl).1,kc hb (jb0 HB8.out 6 _ rfl).1,kc hb (jb0 HB8.out 7 _ rfl).1,kc hb (jb0 HB8.out 8 _ rfl).1,kc hb (jb0 HB8.out 9 _ rfl).1,kc hb (jb0 HB8.out 10 _ rfl).1⟩
 have KSB:Hid (∀wz,Below (w.heap.size+1) W8 wz→wz.cell? ⟨w.heap.size,2,none⟩=some (.int .u64 s.first.se)∧wz.cell? ⟨w.heap.size,6,none⟩=some (.string ⟨#[]⟩)∧wz.cell? ⟨w.heap.size,7,none⟩=some (.string s.b.vt)∧wz.cell? ⟨w.heap.size,8,none⟩=some (.int .i64 s.b.vs)∧wz.cell? ⟨w.heap.size,9,none⟩=some (.slice an s.b.ns.length cn)∧wz.cell? ⟨w.heap.size,10,none⟩=some (.string s.setup)):=Lib.hid fun wz hb=>⟨(jb0 ((hb.block _ HWL.out).trans HB8.out) 2 _ rfl).1,(jb0 ((hb.block _ HWL.out).trans HB8.out) 6 _ rfl).1,(jb0 ((hb.block _ HWL.out).trans HB8.out) 7 _ rfl).1,(jb0 ((hb.block _ HWL.out).trans HB8.out) 8 _ rfl).1,(jb0 ((hb.block _ HWL.out).trans HB8.out) 9 _ rfl).1,(jb0 ((hb.block _ HWL.out).trans HB8.out) 10 _ rfl).1⟩
 have HF8:=Lib.hid hf8;have HBW8:=Lib.hid (bt HBW.out hb8);have HWS:=Lib.hid (Array.getElem?_eq_some_iff.1 hf8).1;clear hWz hW8 hb8 hf8 x0 x1 x2 x3 x4 x5 x6 x7 x8 x9 x10 x11
 go_cut [3] from 9 to 22 (fun v3 wx=>∃(u3:Value),v3=u3∧Below (w.heap.size+1) W8 wx∧wx.ownsRow (w.heap.size+1) 40 6 u3 (1+(midO s).length) (rgcells (s.first::midO s)))
 case first=>
  refine wp_region_held_drew (S:=fun w'=>w'.cell? ⟨w.heap.size,2,none⟩=some (.int .u64 s.first.se)∧w'.cell? ⟨w.heap.size,6,none⟩=some (.string ⟨#[]⟩)∧w'.cell? ⟨w.heap.size,7,none⟩=some (.string s.b.vt)∧w'.cell? ⟨w.heap.size,8,none⟩=some (.int .i64 s.b.vs)∧w'.cell? ⟨w.heap.size,9,none⟩=some (.slice an s.b.ns.length cn)∧w'.cell? ⟨w.heap.size,10,none⟩=some (.string s.setup)) (by kernel_rfl) (KSA.out _ (Below.refl _ _).drew) (fun hHeld=>?_);have hbk:Below W8.heap.size W8 W8.drew:=(Below.refl _ _).drew;have L2:W8.drew.heap[w.heap.size+1]?=some (.cells #[.int .i64 s.first.fl.toNat,.int .u64 s.first.po,.int .u64 s.first.se,.int .u64 s.first.nu,.string s.first.la,.string s.first.bo] 40 (0,0)):=HF8.out;generalize W8.drew=Wd at *
  (try simp only[Act.put,List.getElem_toArray,List.getElem_cons_zero,List.getElem_cons_succ,List.setIfInBounds_toArray,List.set_cons_zero,List.set_cons_succ])
  refine wpAnyH_take (i:=0) (v:=?_) rfl (by kernel_rfl) (by kernel_rfl) (by kernel_rfl) (fun _ _ _ h=>h) (Or.inl ⟨by rfl,?_⟩) (by assumption) ?_
  rotate_left 1
  · (intro w hSw;(try dsimp only at hSw);go_simp;(try with_reducible rfl))
  (try simp only[Act.put,List.getElem_toArray,List.getElem_cons_zero,List.getElem_cons_succ,List.setIfInBounds_toArray,List.set_cons_zero,List.set_cons_succ])
  refine wpAnyH_take (i:=1) (v:=?_) rfl (by kernel_rfl) (by kernel_rfl) (by kernel_rfl) (fun _ _ _ h=>h) (Or.inl ⟨by rfl,?_⟩) (by assumption) ?_
  rotate_left 1
  · (intro w hSw;(try dsimp only at hSw);go_simp;(try with_reducible rfl))
  (try simp only[Act.put,List.getElem_toArray,List.getElem_cons_zero,List.getElem_cons_succ,List.setIfInBounds_toArray,List.set_cons_zero,List.set_cons_succ])
  refine wpAnyH_take (i:=2) (v:=?_) rfl (by kernel_rfl) (by kernel_rfl) (by kernel_rfl) (fun _ _ _ h=>h) (Or.inl ⟨by rfl,?_⟩) (by assumption) ?_
  rotate_left 1
  · (intro w hSw;(try dsimp only at hSw);go_simp;(try with_reducible rfl))
  (try simp only[Act.put,List.getElem_toArray,List.getElem_cons_zero,List.getElem_cons_succ,List.setIfInBounds_toArray,List.set_cons_zero,List.set_cons_succ])
  refine wpAnyH_take (i:=3) (v:=?_) rfl (by kernel_rfl) (by kernel_rfl) (by kernel_rfl) (fun _ _ _ h=>h) (Or.inl ⟨by rfl,?_⟩) (by assumption) ?_
  rotate_left 1
  · (intro w hSw;(try dsimp only at hSw);go_simp;(try with_reducible rfl))
  (try simp only[Act.put,List.getElem_toArray,List.getElem_cons_zero,List.getElem_cons_succ,List.setIfInBounds_toArray,List.set_cons_zero,List.set_cons_succ])
  refine wpAnyH_take (i:=4) (v:=?_) rfl (by kernel_rfl) (by kernel_rfl) (by kernel_rfl) (fun _ _ _ h=>h) (Or.inl ⟨by rfl,?_⟩) (by assumption) ?_
  rotate_left 1
  · (intro w hSw;(try dsimp only at hSw);go_simp;(try with_reducible rfl))
  (try simp only[Act.put,List.getElem_toArray,List.getElem_cons_zero,List.getElem_cons_succ,List.setIfInBounds_toArray,List.set_cons_zero,List.set_cons_succ])
  refine wpAnyH_take (i:=5) (v:=?_) rfl (by kernel_rfl) (by kernel_rfl) (by kernel_rfl) (fun _ _ _ h=>h) (Or.inl ⟨by rfl,?_⟩) (by assumption) ?_
  rotate_left 1
  · (intro w hSw;(try dsimp only at hSw);go_simp;(try with_reducible rfl))
  (try simp only[Act.put,List.getElem_toArray,List.getElem_cons_zero,List.getElem_cons_succ,List.setIfInBounds_toArray,List.set_cons_zero,List.set_cons_succ])
  refine wpAnyH_take (i:=6) (v:=?_) rfl (by kernel_rfl) (by kernel_rfl) (by kernel_rfl) (fun _ _ _ h=>h) (Or.inl ⟨by rfl,?_⟩) (by assumption) ?_
  rotate_left 1
  · (intro w hSw;(try dsimp only at hSw);go_simp;(try with_reducible rfl))
  (try simp only[Act.put,List.getElem_toArray,List.getElem_cons_zero,List.getElem_cons_succ,List.setIfInBounds_toArray,List.set_cons_zero,List.set_cons_succ])
  refine wpAnyH_take (i:=9) (v:=?_) rfl (by kernel_rfl) (by kernel_rfl) (by kernel_rfl) (fun _ _ _ h=>h) (Or.inl ⟨by rfl,?_⟩) (by assumption) ?_
  rotate_left 1
  · (intro w hSw;(try dsimp only at hSw);go_simp;(try with_reducible rfl))
  (try simp only[Act.put,List.getElem_toArray,List.getElem_cons_zero,List.getElem_cons_succ,List.setIfInBounds_toArray,List.set_cons_zero,List.set_cons_succ])
  refine wpAnyH_take (i:=10) (v:=?_) rfl (by kernel_rfl) (by kernel_rfl) (by kernel_rfl) (fun _ _ _ h=>h) (Or.inl ⟨by rfl,?_⟩) (by assumption) ?_
  rotate_left 1
  · (intro w hSw;(try dsimp only at hSw);go_simp;(try with_reducible rfl))
  (try simp only[Act.put,List.getElem_toArray,List.getElem_cons_zero,List.getElem_cons_succ,List.setIfInBounds_toArray,List.set_cons_zero,List.set_cons_succ])
  refine wpAnyH_ready (rs:=[7]) (by kernel_rfl) (by simp) ?_;refine AllReadyH.cons rfl (fun K hK=>?_) AllReadyH.nil
  go_simp
  (go_at_call 35;(with_reducible refine(KP.out _ (bt HBW8.out hbk)).mono ?_);rintro e5 wn1 ⟨rfl,hst⟩)
  refine hK.out _ _ (KSA.out _ (bt hbk hst)) (fun hHeld=>?_);clear hK K;replace L2:=blkP L2 hst;replace hbk:=bt hbk hst;clear hst
  (try simp only[Act.put,List.getElem_toArray,List.getElem_cons_zero,List.getElem_cons_succ,List.setIfInBounds_toArray,List.set_cons_zero,List.set_cons_succ])
  refine wpAnyH_take (i:=8) (v:=?_) rfl (by kernel_rfl) (by kernel_rfl) (by kernel_rfl) (fun _ _ _ h=>h) (Or.inl ⟨by rfl,?_⟩) (by assumption) ?_
  rotate_left 1
  · (intro w hSw;(try dsimp only at hSw);go_simp;(try with_reducible rfl))
  (try simp only[Act.put,List.getElem_toArray,List.getElem_cons_zero,List.getElem_cons_succ,List.setIfInBounds_toArray,List.set_cons_zero,List.set_cons_succ])
  refine wpAnyH_ready (rs:=[11]) (by kernel_rfl) (by simp) ?_;refine AllReadyH.cons rfl (fun K hK=>?_) AllReadyH.nil
  go_simp
  refine hK.out _ _ (KSA.out _ (bal hbk _)) (fun hHeld=>?_);clear hK K;have hst:=bal (Below.refl wn1.heap.size wn1) (.cells #[.string (pkA s),.string s.setup] 9);have L11:=heap_alloc_new wn1 (.cells #[.string (pkA s),.string s.setup] 9);replace L2:=blkP L2 hst;replace hbk:=bt hbk hst;generalize wn1.alloc (.cells #[.string (pkA s),.string s.setup] 9)=wn2 at *;clear hst
  (try simp only[Act.put,List.getElem_toArray,List.getElem_cons_zero,List.getElem_cons_succ,List.setIfInBounds_toArray,List.set_cons_zero,List.set_cons_succ])
  refine wpAnyH_ready (rs:=[12]) (by kernel_rfl) (by simp) ?_;refine AllReadyH.cons rfl (fun K hK=>?_) AllReadyH.nil
  go_simp
  (go_at_call 34;(with_reducible refine(KPP.out _ _ L11).mono ?_);rintro e5 wn3 ⟨hst,v10,rfl,ho10⟩)
  refine hK.out _ _ (KSA.out _ (bt hbk hst)) (fun hHeld=>?_);clear hK K;replace L2:=blkP L2 hst;replace L11:=blkP L11 hst;replace hbk:=bt hbk hst;clear hst
  (try simp only[Act.put,List.getElem_toArray,List.getElem_cons_zero,List.getElem_cons_succ,List.setIfInBounds_toArray,List.set_cons_zero,List.set_cons_succ])
  refine wpAnyH_ready (rs:=[13]) (by kernel_rfl) (by simp) ?_;refine AllReadyH.cons rfl (fun K hK=>?_) AllReadyH.nil;obtain⟨g10,c10,rfl,_⟩:=jc9 ho10 HML.out;have hc10:∀(j:Nat) (u:Value),(rgcells (midO s))[j]?=some u→wn3.cell? ((⟨g10,0,none⟩:Addr).add j)=some u:=fun j u hj=>by
   obtain⟨a',c',h1,h2⟩:=jc2 ho10;simp only[Value.slice.injEq]at h1;obtain⟨rfl,_,_⟩:=h1;obtain⟨g',o',e',hcc⟩:=h2 j u hj;simp only[Option.some.injEq,Addr.mk.injEq,and_true]at e';obtain⟨rfl,rfl⟩:=e';rw[jq9];exact hcc
  have hA2:(w.heap.size+1)≤wn3.heap.size:=Nat.le_of_lt (Array.getElem?_eq_some_iff.1 L2).1;have HC10:=Lib.hid hc10;clear hc10;refine js7 rfl _ _ 46 40 rfl Tryz.underlying46 (.agg #[.int .i64 0,.int .u64 0,.int .u64 0,.int .u64 0,.string ⟨#[]⟩,.string ⟨#[]⟩]) 6 64 vb6 rfl (by decide) wn3 (w.heap.size+1) (.slice (some ⟨w.heap.size+1,0,none⟩) 1 1) 1 #[.int .i64 s.first.fl.toNat,.int .u64 s.first.po,.int .u64 s.first.se,.int .u64 s.first.nu,.string s.first.la,.string s.first.bo].toList rfl (jm3 (n:=1) (s:=6) L2 rfl (by decide)) ⟨g10,0,none⟩ (midO s).length c10 (rgcells (midO s)) rfl (kq4 _) HC10.out (qg4 _) HMA.out HMB.out hA2 ?_;intro v11 wn4 ho11 hb11;have hst:=(hbk.mono (Nat.le_of_lt HWS.out)).trans hb11;refine hK.out _ _ (KSB.out _ hst) (fun hHeld=>?_);clear hK K hbk hb11 ho10;have hbk:=hst;clear hst
  (try simp only[Act.put,List.getElem_toArray,List.getElem_cons_zero,List.getElem_cons_succ,List.setIfInBounds_toArray,List.set_cons_zero,List.set_cons_succ])
  refine wpAnyH_take (i:=14) (v:=?_) rfl (by kernel_rfl) (by kernel_rfl) (by kernel_rfl) (fun _ _ _ h=>h) (Or.inl ⟨by rfl,?_⟩) (by assumption) ?_
  rotate_left 1
  · (intro w hSw;(try dsimp only at hSw);go_simp;(try with_reducible rfl))
  (try simp only[Act.put,List.getElem_toArray,List.getElem_cons_zero,List.getElem_cons_succ,List.setIfInBounds_toArray,List.set_cons_zero,List.set_cons_succ])
  refine wpAnyH_done (by kernel_rfl) ?_ _
  go_wp2_with fail
  go_meet
  exact⟨_,rfl,hbk,by rw[←HGC.out];exact ho11⟩
 case rest=>
  obtain⟨u8,rfl,hbx,ho8⟩:=hcut;obtain⟨M8,hM8⟩:∃M8,M8=1+(midO s).length:=⟨_,rfl⟩;have hsum:M8+n≤1048576:=by
   have ol:=HOL.out;unfold opagesL at ol;simp only[List.cons_append,List.length_cons,List.length_append,jh2]at ol;have:=HN.out;omega
  rw[←hM8]at ho8;have HRES:Hid (opagesL s=s.first::midO s++renumL M8 s.sound):=Lib.hid (by rw[hM8];rfl);obtain⟨av8,cv8,hu8⟩:=jb4 ho8;subst hu8;have HBX:=Lib.hid hbx;have HO8:=Lib.hid ho8;have HM8:=Lib.hid hM8;have KX:Hid (∀wz,Below (w.heap.size+1) W8 wz→wz.cell? ⟨w.heap.size,11,none⟩=some (.slice as_ n cs_)):=Lib.hid fun wz hb=>(jb0 ((hb.block _ HWL.out).trans HB8.out) 11 _ rfl).1
  have x11:=KX.out _ hbx;have hM80:M8≠0:=by omega
  clear hM8 hbx ho8
  go_wp2_with fail
  clear x11
  go_loopw [3,4] (fun lv iv wr=>∃(i q:Nat),iv=.int .i64 (i:Int)∧i≤n∧Hid (q=M8+i)∧Hid (Below (w.heap.size+1) W8 wr)∧Hid (wr.ownsRow (w.heap.size+1) 40 6 lv q (rgcells (s.first::midO s++renumL M8 (s.sound.take i))))) (fun _ iv _=>n-(intOf iv).toNat)
  case atStart=>exact⟨0,M8,rfl,Nat.zero_le _,Lib.hid rfl,HBX,Lib.hid (by
   have h:=HO8.out;rw[List.take_zero,show renumL M8 [] = [] from rfl,List.append_nil];exact h)⟩
  case round=>
   clear HBX HO8;obtain⟨i,q,rfl,hi,HQ,HB,HO⟩:=hrel;obtain⟨av9,cv9,hu9⟩:=jb4 HO.out;subst hu9;have hq:=HQ.out;have hq2:q≤1048576:=by omega
   have x11:=KX.out _ HB.out;have HBL:=Lib.hid (HBW8.out.trans (HB.out.mono (Nat.le_succ _)));by_cases hlt:i<n
   · obtain⟨p,hp⟩:=jb6 s.sound i (by rw[←HN.out];exact hlt)
     obtain⟨gg,og,rfl,d0,d1,d2,d3,d4,d5⟩:=qq9 HC.out i p hp;replace d0:=kc HBL.out d0;replace d1:=kc HBL.out d1;replace d2:=kc HBL.out d2;replace d3:=kc HBL.out d3;replace d4:=kc HBL.out d4;replace d5:=kc HBL.out d5;have hst:rgcells (s.first::midO s++renumL M8 (s.sound.take (i+1)))=rgcells (s.first::midO s++renumL M8 (s.sound.take i))++(#[.int .i64 p.fl.toNat,.int .u64 p.po,.int .u64 p.se,.int .u64 q,.string p.la,.string p.bo]:Array Value).toList:=by
      have h1:i<s.sound.length:=by rw[←HN.out];exact hlt
      rw[List.take_add_one,hp,Option.toList_some,jz8,←List.append_assoc,jr9];rw[List.length_take,show(M8+min i s.sound.length)%4294967296=q by omega]
     obtain⟨fl,po,se,nu,la,bo⟩:=p;simp only at d0 d1 d2 d3 d4 d5 hst;generalize (fl.toNat:Int)=f at *;have hbA:=bal (Below.refl wr.heap.size wr) (.cells #[.int .i64 f,.int .u64 po,.int .u64 se,.int .u64 q,.string la,.string bo] 40);have hoA:=jb2 HO.out hbA;have hBA:w.heap.size+1≤(wr.alloc (.cells #[.int .i64 f,.int .u64 po,.int .u64 se,.int .u64 q,.string la,.string bo] 40)).heap.size:=by have h1:=HWS.out;have h2:=HB.out.size;have h3:=hbA.size;omega
     have hwA:=HB.out.trans (hbA.mono (by have h1:=HWS.out;have h2:=HB.out.size;omega));have m0:(0:Int)≤(i:Int):=by omega
     have m1:(i:Int)<(n:Int):=by omega
     have hw1:IntKind.i64.wrap ((i:Int)+1)=(i:Int)+1:=wi64 _ (by omega) (by omega);have hu:IntKind.u64.wrap (q:Int)=(q:Int):=jd3 _ (by omega) (by omega);have z1:q<70368744177664:=by omega
     have z2:(q+1)*64≤140737488355328:=by omega
     have HST:=Lib.hid hst;have HOA:=Lib.hid hoA;have HBA:=Lib.hid hBA;have HWA:=Lib.hid hwA;clear hp hst hq hbA hoA hBA hwA
     go_wp2_with (first
      | (at_builtin;(refine jc4 rfl _ _ 46 40 rfl Tryz.underlying46 (.agg #[.int .i64 0,.int .u64 0,.int .u64 0,.int .u64 0,.string ⟨#[]⟩,.string ⟨#[]⟩]) 6 64 vb6 rfl (by decide) (wr.alloc (.cells #[.int .i64 f,.int .u64 po,.int .u64 se,.int .u64 q,.string la,.string bo] 40)) (w.heap.size+1) (.slice av9 q cv9) q (rgcells (s.first::midO s++renumL M8 (s.sound.take i))) rfl HOA.out #[.int .i64 f,.int .u64 po,.int .u64 se,.int .u64 q,.string la,.string bo] rfl (by simp[Value.oneCell']) (by show Value.slice (some ⟨wr.heap.size+1,0,none⟩) 1 1=_;rw[World.size_alloc]) z1 z2 HBA.out ?_);intro v6 w6 hown6 hb6 hk6;have HO6:=Lib.hid hown6;have HB6:=Lib.hid hb6;clear hown6 hb6 hk6)
      | fail)
     go_roundw
     case rel=>exact⟨i+1,q+1,by go_num,by omega,Lib.hid (by have:=HQ.out;omega),Lib.hid (HWA.out.trans HB6.out),Lib.hid (by rw[HST.out];exact HO6.out)⟩
     case measure=>simp[intOf];omega
   · have hin:i=n:=by omega
     have ho:=HO.out;have hql:q=(opagesL s).length:=by
      rw[HRES.out];simp only[List.cons_append,List.length_cons,List.length_append,jh2];have h1:=HQ.out;have h2:=HN.out;have h3:=HM8.out;omega
     rw[hin,List.take_of_length_le (by rw[←HN.out];exact Nat.le_refl _),←HRES.out]at ho;have m1:¬(i:Int)<(n:Int):=by omega
     have HOF:=Lib.hid ho;have HQL:=Lib.hid hql;clear hin ho hq hql
     go_wp2_with fail
     go_ret
     have hr:=HOF.out;rw[HQL.out]at hr;exact⟨HBL.out,_,rfl,by rw[HQL.out];exact jc3 hr (Nat.le_succ _)⟩
end Go.Proofs.YtagjkmkmphamoaaGreatDoor
