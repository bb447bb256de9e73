/- Ge -/
import Derived.Test.YtmfjmgjhfplijaaGreatDoorMFe
set_option linter.unusedVariables false
set_option linter.unusedSimpArgs false
set_option maxHeartbeats 8000000
namespace Go.Proofs.YtmfjmgjhfplijaaGreatDoor
open Go.RowKit
set_option maxRecDepth 100000 in
theorem lsameT_any (va vb : Value) (a : Bk) (w : World) (hra : Row w va a.ns.length (ntcells a.ns)) (hrb : Row w vb a.ns.length (ntcells a.ns)) (hnl : a.ns.length ≤ 1000000) :
 Calls Tryz.prog 49 #[.agg #[.string ⟨#[]⟩,.string a.vt,.int .i64 a.vs,va],.agg #[.string ⟨#[]⟩,.string a.vt,.int .i64 a.vs,vb],.bool true] w fun e w'=>e = .returned (.bool true) ∧ Below w.heap.size w w':=by
 obtain ⟨vt,sa,la⟩:=a
 simp only at hra hrb hnl ⊢
 obtain ⟨n,hn⟩ : ∃ n,n = la.length:=⟨_,rfl⟩
 rw [← hn] at hra hrb hnl
 obtain ⟨aa,ca,rfl,hca⟩:=hra
 obtain ⟨ab,cb,rfl,hcb⟩:=hrb
 obtain ⟨W,hW⟩ : ∃ W,W = (w.alloc (.cells #[.string ⟨#[]⟩,.string vt,.int .i64 sa,.slice aa n ca] 45)).alloc (.cells #[.string ⟨#[]⟩,.string vt,.int .i64 sa,.slice ab n cb] 45):=⟨_,rfl⟩
 have hs1 : (w.alloc (.cells #[.string ⟨#[]⟩,.string vt,.int .i64 sa,.slice aa n ca] 45)).heap.size = w.heap.size + 1:=World.size_alloc _ _
 have hbW : Below w.heap.size w W:=by rw [hW];exact bal (bal (Below.refl _ _) _) _
 have la3 : Live W w.heap.size 3 (.slice aa n ca):=by rw [hW];exact (Live.fresh _ _ _ 3 _ rfl).alloc _
 have lb3 : Live W (w.heap.size + 1) 3 (.slice ab n cb):=by rw [hW,← hs1];exact Live.fresh _ _ _ 3 _ rfl
 have e1:=fun w=>neqNote ⟨#[]⟩ vt sa w
 have g1:=fun x y w=>guardNote .neq x y #[.string ⟨#[]⟩,.string vt,.int .i64 sa] #[.string ⟨#[]⟩,.string vt,.int .i64 sa] w
 have HCA:=Lib.hid hca
 have HCB:=Lib.hid hcb
 have HN:=Lib.hid hn
 have HBW:=Lib.hid hbW
 have LA3:=Lib.hid la3
 have LB3:=Lib.hid lb3
 clear hca hcb hn hbW la3 lb3
 clear hs1
 go_enter Tryz.func49,Tryz.ntmps49
 go_wp2_with fail
 rw [← hW]
 clear hW e1 g1
 go_loopw [33] (fun iv wr=>∃ k : Nat,iv = .int .i64 (k : Int) ∧ k ≤ n ∧ Below W.heap.size W wr) (fun iv _=>n - (intOf iv).toNat)
 case atStart=>exact ⟨0,rfl,Nat.zero_le _,Below.refl _ _⟩
 case round=>
  obtain ⟨k,rfl,hk,hbel⟩:=hrel
  by_cases hlt : k < n
  · obtain ⟨x,hx⟩:=at_some la k (by rw [← HN.out];exact hlt)
    obtain ⟨ga,oa,rfl,a0,a1,a2⟩:=nt_at HCA.out k x hx
    obtain ⟨gb,ob,rfl,b0,b1,b2⟩:=nt_at HCB.out k x hx
    have a0:=kc hbel (kc HBW.out a0)
    have a1:=kc hbel (kc HBW.out a1)
    have a2:=kc hbel (kc HBW.out a2)
    have b0:=kc hbel (kc HBW.out b0)
    have b1:=kc hbel (kc HBW.out b1)
    have b2:=kc hbel (kc HBW.out b2)
    have c3:=kc hbel LA3.out.1
    have d3:=kc hbel LB3.out.1
    have m0 : (0 : Int) ≤ (k : Int):=by omega
    have m1 : (k : Int) < (n : Int):=by omega
    have e1:=fun w=>neqNote x.name x.text x.set w
    have g1:=fun p q w=>guardNote .neq p q #[.string x.name,.string x.text,.int .i64 x.set] #[.string x.name,.string x.text,.int .i64 x.set] w
    generalize x.name = xn at *
    generalize x.text = xt at *
    generalize x.set = xs at *
    have n0:=World.new_ne _ _ a0
    have n1:=World.new_ne _ _ b0
    have n2:=World.new_ne _ _ c3
    have n3:=World.new_ne _ _ d3
    clear hx
    go_wp2_with fail
    go_region_held3 (fun w'=>w'.cell? ⟨w.heap.size,3,none⟩ = some (.slice (some ⟨ga,oa,none⟩) n ca) ∧ w'.cell? ⟨w.heap.size + 1,3,none⟩ = some (.slice (some ⟨gb,ob,none⟩) n cb) ∧ w'.cell? ⟨ga,oa + k * 3,none⟩ = some (.string xn) ∧ w'.cell? ⟨ga,oa + k * 3 + 1,none⟩ = some (.string xt) ∧ w'.cell? ⟨ga,oa + k * 3 + 2,none⟩ = some (.int .i64 xs) ∧ w'.cell? ⟨gb,ob + k * 3,none⟩ = some (.string xn) ∧ w'.cell? ⟨gb,ob + k * 3 + 1,none⟩ = some (.string xt) ∧ w'.cell? ⟨gb,ob + k * 3 + 2,none⟩ = some (.int .i64 xs)) (go_keep) (fail)
    all_goals
     go_wp2_with fail
     exact ⟨⟨k + 1,by go_num,by omega,(bal (bal hbel _) _).drew⟩,by simp [intOf];omega⟩
  · have hbz:=HBW.out.trans (hbel.mono HBW.out.size)
    have m1 : ¬ (k : Int) < (n : Int):=by omega
    have HBZ:=Lib.hid hbz
    clear hbz
    go_wp2_with fail
    go_ret
    exact ⟨rfl,HBZ.out⟩
set_option maxRecDepth 100000 in
theorem fsameT_any (va na vb nb : Value) (a : Fl) (w : World) (hra : RfRow w va na a) (hrb : RfRow w vb nb a) (hnl : a.b.ns.length ≤ 1000000) (hml : a.ms.length ≤ 1000000) :
 Calls Tryz.prog 12 #[rfV va na a,rfV vb nb a,.bool true] w fun e w'=>e = .returned (.bool true) ∧ Below w.heap.size w w':=by
 have ks : ∀ w',Below w.heap.size w w' → Calls Tryz.prog 49 #[.agg #[.string ⟨#[]⟩,.string a.b.vt,.int .i64 a.b.vs,na],.agg #[.string ⟨#[]⟩,.string a.b.vt,.int .i64 a.b.vs,nb],.bool true] w' fun e w''=>e = .returned (.bool true) ∧ Below w'.heap.size w' w'':=fun w' hb=>lsameT_any na nb a.b w' (hra.2.keep hb) (hrb.2.keep hb) hnl
 obtain ⟨⟨aa,ca,rfl,hca⟩,⟨ana,cna,rfl,_⟩⟩:=hra
 obtain ⟨⟨ab,cb,rfl,hcb⟩,⟨anb,cnb,rfl,_⟩⟩:=hrb
 obtain ⟨ms,⟨vt,vs,ns⟩,at_,snd⟩:=a
 simp only at hca hcb ks hml
 unfold rfV
 simp only
 obtain ⟨n,hn⟩ : ∃ n,n = ms.length:=⟨_,rfl⟩
 rw [← hn] at hml ⊢
 generalize ns.length = nn at *
 obtain ⟨W,hW⟩ : ∃ W,W = (w.alloc (.cells #[.slice aa n ca,.string ⟨#[]⟩,.string vt,.int .i64 vs,.slice ana nn cna,.int .i64 at_,.string snd] 47)).alloc (.cells #[.slice ab n cb,.string ⟨#[]⟩,.string vt,.int .i64 vs,.slice anb nn cnb,.int .i64 at_,.string snd] 47):=⟨_,rfl⟩
 have hs1 : (w.alloc (.cells #[.slice aa n ca,.string ⟨#[]⟩,.string vt,.int .i64 vs,.slice ana nn cna,.int .i64 at_,.string snd] 47)).heap.size = w.heap.size + 1:=World.size_alloc _ _
 have hbW : Below w.heap.size w W:=by rw [hW];exact bal (bal (Below.refl _ _) _) _
 have la : ∀ (i : Nat) (u : Value),(#[.slice aa n ca,.string ⟨#[]⟩,.string vt,.int .i64 vs,.slice ana nn cna,.int .i64 at_,.string snd] : Array Value)[i]? = some u → W.cell? ⟨w.heap.size,i,none⟩ = some u:=by
  intro i u hu;rw [hW];exact ((Live.fresh w _ 47 i u hu).alloc _).1
 have lb : ∀ (i : Nat) (u : Value),(#[.slice ab n cb,.string ⟨#[]⟩,.string vt,.int .i64 vs,.slice anb nn cnb,.int .i64 at_,.string snd] : Array Value)[i]? = some u → W.cell? ⟨w.heap.size + 1,i,none⟩ = some u:=by
  intro i u hu;rw [hW,← hs1];exact (Live.fresh _ _ 47 i u hu).1
 have a0:=la 0 _ rfl
 have a1:=la 1 _ rfl
 have a2:=la 2 _ rfl
 have a3:=la 3 _ rfl
 have a4:=la 4 _ rfl
 have a5:=la 5 _ rfl
 have a6:=la 6 _ rfl
 have b0:=lb 0 _ rfl
 have b1:=lb 1 _ rfl
 have b2:=lb 2 _ rfl
 have b3:=lb 3 _ rfl
 have b4:=lb 4 _ rfl
 have b5:=lb 5 _ rfl
 have b6:=lb 6 _ rfl
 have A0:=Lib.hid a0
 have B0:=Lib.hid b0
 have HCA:=Lib.hid hca
 have HCB:=Lib.hid hcb
 have HN:=Lib.hid hn
 have HBW:=Lib.hid hbW
 have KS:=Lib.hid ks
 have HML:=Lib.hid hml
 clear hca hcb hn hbW ks hml
 clear hs1 la lb hnl
 go_enter Tryz.func12,Tryz.ntmps12
 go_wp2_with fail
 rw [← hW]
 clear hW
 go_wp2_with (go_at_call 49;with_reducible refine (KS.out _ HBW.out).mono ?_;rintro e w2 ⟨rfl,hb2⟩;have a0:=kc hb2 a0;have b0:=kc hb2 b0)
 go_loopw [41] (fun iv wr=>∃ k : Nat,iv = .int .i64 (k : Int) ∧ k ≤ n ∧ Below W.heap.size W wr) (fun iv _=>n - (intOf iv).toNat)
 case atStart=>exact ⟨0,rfl,Nat.zero_le _,hb2⟩
 case round=>
  obtain ⟨k,rfl,hk,hbel⟩:=hrel
  clear a0 a1 a2 a3 a4 a5 a6 b0 b1 b2 b3 b4 b5 b6
  by_cases hlt : k < n
  · obtain ⟨x,hx⟩:=at_some ms k (by rw [← HN.out];exact hlt)
    obtain ⟨ga,oa,rfl,u0,u1⟩:=rm_at HCA.out k x hx
    obtain ⟨gb,ob,rfl,v0,v1⟩:=rm_at HCB.out k x hx
    have u0:=kc hbel (kc HBW.out u0)
    have u1:=kc hbel (kc HBW.out u1)
    have v0:=kc hbel (kc HBW.out v0)
    have v1:=kc hbel (kc HBW.out v1)
    have c3:=kc hbel A0.out
    have d3:=kc hbel B0.out
    have m0 : (0 : Int) ≤ (k : Int):=by omega
    have m1 : (k : Int) < (n : Int):=by omega
    have hw1 : IntKind.i64.wrap ((k : Int) + 1) = (k : Int) + 1:=wi64 _ (by omega) (by have:=HML.out;omega)
    have e1:=fun w=>neqMeta (x.kind : Int) x.body w
    have g1:=fun p q w=>guardMeta .neq p q #[.int .i64 (x.kind : Int),.string x.body] #[.int .i64 (x.kind : Int),.string x.body] w
    clear hx
    go_wp2
    go_quiet (fail)
    go_wp2
    exact ⟨⟨k + 1,by go_num,by omega,bdn hbel _⟩,by simp [intOf];omega⟩
  · have hbz:=HBW.out.trans (hbel.mono HBW.out.size)
    have m1 : ¬ (k : Int) < (n : Int):=by omega
    have HBZ:=Lib.hid hbz
    clear hbz
    go_wp2_with fail
    go_ret
    exact ⟨rfl,HBZ.out⟩
end Go.Proofs.YtmfjmgjhfplijaaGreatDoor
