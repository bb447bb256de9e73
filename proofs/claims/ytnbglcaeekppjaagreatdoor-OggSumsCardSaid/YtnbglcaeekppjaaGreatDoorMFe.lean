/- Fe -/
import Derived.Test.YtnbglcaeekppjaaGreatDoorMGB
set_option linter.unusedVariables false
set_option linter.unusedSimpArgs false
set_option maxHeartbeats 8000000
namespace Go.Proofs.YtnbglcaeekppjaaGreatDoor
open Go.RowKit
theorem mtcells_snoc (l : List Mt) (m : Mt) : mtcells (l ++ [m]) = mtcells l ++ (#[.int .u8 m.kind,.string m.body] : Array Value).toList:=by rw [mtcells_append];rfl
section
variable {w wr : World} {r H : Nat} {kd fb bu : Int} {g : Bool} {f : Fl} {vm vb : Value}
end
theorem infoRN : (Tryz.prog.info? 42).map (fun i=>(i.zero,i.size,i.bytes)) = some (some (.agg #[.string ⟨#[]⟩,.string ⟨#[]⟩,.int .i64 0]),3,40):=by kernel_rfl
theorem ntcells_snoc' (l : List Nt) (n : Nt) : ntcells (l ++ [n]) = ntcells l ++ (#[.string n.name,.string n.text,.int .i64 n.set] : Array Value).toList:=by rw [ntcells_append];rfl
set_option maxRecDepth 100000 in
theorem lof_any (v : Value) (b : Bk) (w : World) (hrow : Row w v b.ns.length (ntcells b.ns)) (hok : smBk b) (hnl : b.ns.length ≤ 1000000) :
 Calls Tryz.prog 24 #[.agg #[.string b.vt,.int .i64 b.vs,v]] w fun e w'=>∃ v',e = .returned (.agg #[.string ⟨#[]⟩,.string b.vt,.int .i64 b.vs,v']) ∧ w'.ownsRow w.heap.size 42 3 v' b.ns.length (ntcells b.ns) ∧ Below w.heap.size w w':=by
 obtain ⟨vt,vs,ns⟩:=b
 obtain ⟨av,cap,rfl,hc⟩:=hrow
 obtain ⟨o1,o2,o3⟩:=hok
 simp only at o1 o2 o3 hc hnl ⊢
 obtain ⟨n,hn⟩ : ∃ n,n = ns.length:=⟨_,rfl⟩
 rw [← hn] at o2 hnl ⊢
 obtain ⟨W,hW⟩ : ∃ W,W = (w.alloc (.cells #[.string vt,.int .i64 vs,.slice av n cap] 33)).alloc (.cells #[.string ⟨#[]⟩,.string ⟨#[]⟩,.int .i64 0,.slice none 0 0] 45):=⟨_,rfl⟩
 have hs1 : (w.alloc (.cells #[.string vt,.int .i64 vs,.slice av n cap] 33)).heap.size = w.heap.size + 1:=World.size_alloc _ _
 have hWs : W.heap.size = w.heap.size + 1 + 1:=by rw [hW,World.size_alloc,World.size_alloc]
 have hbW : Below w.heap.size w W:=by rw [hW];exact bal (bal (Below.refl _ _) _) _
 have lc : ∀ (i : Nat) (u : Value),(#[.string vt,.int .i64 vs,.slice av n cap] : Array Value)[i]? = some u → W.cell? ⟨w.heap.size,i,none⟩ = some u:=by
  intro i u hu;rw [hW];exact ((Live.fresh w _ 33 i u hu).alloc _).1
 have hres : W.heap[w.heap.size + 1]? = some (.cells #[.string ⟨#[]⟩,.string ⟨#[]⟩,.int .i64 0,.slice none 0 0] 45 (0,0)):=by
  rw [hW,← hs1];exact heap_alloc_new _ _
 have c0:=lc 0 _ rfl
 have c1:=lc 1 _ rfl
 have c2:=lc 2 _ rfl
 clear lc hs1
 have HC:=Lib.hid hc
 have HN:=Lib.hid hn
 have O3:=Lib.hid o3
 have HBW:=Lib.hid hbW
 have HRES:=Lib.hid hres
 have HWS:=Lib.hid hWs
 clear hc hn o3 hbW hres hWs
 go_enter Tryz.func24,Tryz.ntmps24
 go_wp2_with fail
 rw [← hW]
 clear hW
 go_wp2_with fail
 have hM : (W.alloc (.cells #[.string ⟨#[]⟩,.string vt,.int .i64 vs,.slice none 0 0] 45)).heap[w.heap.size + 1 + 1]? = some (.cells #[.string ⟨#[]⟩,.string vt,.int .i64 vs,.slice none 0 0] 45 (0,0)):=by rw [← HWS.out];exact heap_alloc_new _ _
 go_loopw [17] (fun iv wr=>∃ (k : Nat) (v' : Value),iv = .int .i64 (k : Int) ∧ k ≤ n ∧ wr.heap[w.heap.size + 1 + 1]? = some (.cells #[.string ⟨#[]⟩,.string vt,.int .i64 vs,v'] 45 (0,0)) ∧ wr.ownsRow (W.heap.size + 1) 42 3 v' k (ntcells (ns.take k)) ∧ Below W.heap.size W wr) (fun iv _=>n - (intOf iv).toNat)
 case atStart=>exact ⟨0,.slice none 0 0,rfl,Nat.zero_le _,hM,World.ownsRow_nil _ _ _ _,bal (Below.refl _ _) _⟩
 case round=>
  obtain ⟨k,v',rfl,hk,hMb,hown,hbel⟩:=hrel
  clear hM c2
  obtain ⟨av',cv',rfl⟩:=orow_form hown
  obtain ⟨p0,p0'⟩:=live_of hMb 0 _ rfl
  obtain ⟨p1,p1'⟩:=live_of hMb 1 _ rfl
  obtain ⟨p2,p2'⟩:=live_of hMb 2 _ rfl
  obtain ⟨p3,p3'⟩:=live_of hMb 3 _ rfl
  have hML:=(Array.getElem?_eq_some_iff.1 hMb).1
  by_cases hlt : k < n
  · obtain ⟨x,hx⟩:=at_some ns k (by rw [← HN.out];exact hlt)
    obtain ⟨g,o,rfl,d0,d1,d2⟩:=nt_at HC.out k x hx
    have d0:=kc hbel (kc HBW.out d0)
    have d1:=kc hbel (kc HBW.out d1)
    have d2:=kc hbel (kc HBW.out d2)
    obtain ⟨hx1,hx2⟩:=List.getElem?_eq_some_iff.1 hx
    have htk : ns.take (k + 1) = ns.take k ++ [x]:=by rw [List.take_succ_eq_append_getElem hx1,hx2]
    have hba:=bal hbel (.cells #[.string x.name,.string x.text,.int .i64 x.set] 108)
    have hown1:=orow_bel hown ((Below.refl wr.heap.size wr).alloc (Nat.le_refl _) (.cells #[.string x.name,.string x.text,.int .i64 x.set] 108))
    have hMb1 : (wr.alloc (.cells #[.string x.name,.string x.text,.int .i64 x.set] 108)).heap[w.heap.size + 1 + 1]? = _:=(heap_alloc_old _ _ hML).trans hMb
    have hz3 : k < 70368744177664:=by omega
    have hz5 : (k + 1) * 40 ≤ 140737488355328:=by omega
    obtain ⟨p3a,p3a'⟩:=live_of hMb1 3 _ rfl
    have HBA:=Lib.hid hba
    have HO1:=Lib.hid hown1
    have HZ3:=Lib.hid hz3
    have HZ5:=Lib.hid hz5
    have HTK:=Lib.hid htk
    have HMB1:=Lib.hid hMb1
    clear hba hown1 hz3 hz5 htk hMb1
    clear hx1 hx2 hx hMb
    go_wp2_with (first
     | (at_builtin;go_loud (refine wpList_push1 rfl _ _ 43 42 rfl Tryz.underlying43 (.agg #[.string ⟨#[]⟩,.string ⟨#[]⟩,.int .i64 0]) 3 40 infoRN rfl (by decide) (wr.alloc (.cells #[.string x.name,.string x.text,.int .i64 x.set] 108)) (W.heap.size + 1) (.slice av' k cv') k (ntcells (ns.take k)) rfl HO1.out #[.string x.name,.string x.text,.int .i64 x.set] rfl (by simp [Value.oneCell']) (by show Value.slice (some ⟨wr.heap.size + 1,0,none⟩) 1 1 = Value.slice (some ⟨(wr.alloc _).heap.size,0,none⟩) 1 1;rw [World.size_alloc]) HZ3.out HZ5.out (by have:=HWS.out;simp;omega) ?_;intro v7 w7 hown7 hb7 hk7;obtain ⟨av7,cv7,rfl⟩:=orow_form hown7;have hMb7:=(hb7.block (w.heap.size + 1 + 1) (by have:=HWS.out;omega)).trans HMB1.out;obtain ⟨r3,r3'⟩:=live_of hMb7 3 _ rfl)))
    have h8:=Go.Lib.heap_setCell_same (i:=3) hMb7 (.slice av7 (k + 1) cv7)
    have hown8 : (w7.setCell ⟨w.heap.size + 1 + 1,3,none⟩ (.slice av7 (k + 1) cv7)).ownsRow (W.heap.size + 1) 42 3 (.slice av7 (k + 1) cv7) (k + 1) (ntcells (ns.take (k + 1))):=by
     rw [HTK.out,ntcells_snoc']
     exact orow_other hown7 fun q hq=>Below.heap_setCell _ _ _ q (by have:=(orow_blk hown7 q hq).1;have:=HWS.out;simp;omega)
    have hb8 : Below W.heap.size W (w7.setCell ⟨w.heap.size + 1 + 1,3,none⟩ (.slice av7 (k + 1) cv7)) 
     := (HBA.out.trans (hb7.mono (by omega))).setCell (by have:=HWS.out;simp;omega) _
    go_roundw
    case rel=>exact ⟨k + 1,_,by go_num,by omega,by rw [h8];simp,hown8,hb8⟩
    case measure=>simp [intOf];omega
  · have hkn : k = n:=by omega
    have htk : ns.take k = ns:=List.take_of_length_le (by rw [← HN.out];omega)
    rw [htk] at hown
    have hres2:=(hbel.block (w.heap.size + 1) (by rw [HWS.out];omega)).trans HRES.out
    obtain ⟨q0,q0'⟩:=live_of hres2 0 _ rfl
    obtain ⟨q1,q1'⟩:=live_of hres2 1 _ rfl
    obtain ⟨q2,q2'⟩:=live_of hres2 2 _ rfl
    obtain ⟨q3,q3'⟩:=live_of hres2 3 _ rfl
    have hwz:=HWS.out
    have HKN:=Lib.hid hkn
    clear hkn
    go_wp2_with fail
    refine bodyPost_ret (v:=.agg #[.string ⟨#[]⟩,.string vt,.int .i64 vs,.slice av' k cv']) (by simp [results,Tryz.results24,go_sem,q0,q1,q2,q3,q0',q1',q2',q3']) rfl ?_
    have hgz:=gr_trans (gr_trans (gr_trans (gr_set wr (w.heap.size + 1) 0 (.string ⟨#[]⟩)) (gr_set _ (w.heap.size + 1) 1 (.string vt))) (gr_set _ (w.heap.size + 1) 2 (.int .i64 vs))) (gr_set _ (w.heap.size + 1) 3 (.slice av' k cv'))
    obtain rfl:=HKN.out
    refine ⟨_,rfl,orow_mono (orow_other hown fun q hq=>?_) (by omega),?_⟩
    · exact hgz.block q (orow_blk hown q hq).2 (by have:=(orow_blk hown q hq).1;simp;omega)
    · exact ((((HBW.out.trans (hbel.mono HBW.out.size)).setCell (by simp) _).setCell (by simp) _).setCell (by simp) _).setCell (by simp) _
theorem eqNote0 (x y : ByteArray) (z : Int) (w : World) : (Op.equalIn 10000 42 (.agg #[.string x,.string y,.int .i64 z]) (.agg #[.string x,.string y,.int .i64 z])).run Tryz.prog w = .ok true w:=by
 have hS : Tryz.prog.underlying 42 = some (.struct (Tryz.prog.fieldsOf 42)):=by kernel_rfl
 have hp : Tryz.prog.stoodInHeld 42 = false:=by kernel_rfl
 rw [show (10000 : Nat) = 9999 + 1 from rfl,run_equalIn_agg w 9999 42 _ _ hS hp]
 simp only [Program.fieldsOf,Tryz.underlying42]
 simp [go_sem,Op.eqFields]
theorem neqNote (x y : ByteArray) (z : Int) (w : World) : (binOp .neq 42 (.agg #[.string x,.string y,.int .i64 z]) (.agg #[.string x,.string y,.int .i64 z])).run Tryz.prog w = .ok (.bool false) w:=by
 rw [run_neq_struct,eqNote0];rfl
theorem guardNote (op : BinOp) (x y : Operand) (xs ys : Array Value) (w : World) : (eqGuard op 42 x y (.agg xs) (.agg ys)).run Tryz.prog w = .ok () w:=run_eqGuard_agg w op 42 x y xs ys (by kernel_rfl)
def likeBk (a b : Bk) : Prop:=a.vt = b.vt ∧ a.ns.length = b.ns.length ∧ ∀ (k : Nat) (x y : Nt),a.ns[k]? = some x → b.ns[k]? = some y → x.name = y.name ∧ x.text = y.text
set_option maxRecDepth 100000 in
theorem lsame_any (va vb : Value) (a b : Bk) (w : World) (hra : Row w va a.ns.length (ntcells a.ns)) (hrb : Row w vb b.ns.length (ntcells b.ns)) (hl : likeBk a b) (hnl : a.ns.length ≤ 1000000) :
 Calls Tryz.prog 49 #[.agg #[.string ⟨#[]⟩,.string a.vt,.int .i64 a.vs,va],.agg #[.string ⟨#[]⟩,.string b.vt,.int .i64 b.vs,vb],.bool false] w fun e w'=>e = .returned (.bool true) ∧ Below w.heap.size w w':=by
 obtain ⟨vt,sa,la⟩:=a
 obtain ⟨vt',sb,lb⟩:=b
 obtain ⟨hv,hlen,hnt⟩:=hl
 simp only at hv hlen hnt hra hrb hnl ⊢
 subst hv
 obtain ⟨n,hn⟩ : ∃ n,n = la.length:=⟨_,rfl⟩
 rw [← hlen,← hn] at hrb
 rw [← hn] at hra hnl
 obtain ⟨aa,ca,rfl,hca⟩:=hra
 obtain ⟨ab,cb,rfl,hcb⟩:=hrb
 obtain ⟨W,hW⟩ : ∃ W,W = (w.alloc (.cells #[.string ⟨#[]⟩,.string vt,.int .i64 0,.slice aa n ca] 45)).alloc (.cells #[.string ⟨#[]⟩,.string vt,.int .i64 0,.slice ab n cb] 45):=⟨_,rfl⟩
 have hs1 : (w.alloc (.cells #[.string ⟨#[]⟩,.string vt,.int .i64 0,.slice aa n ca] 45)).heap.size = w.heap.size + 1:=World.size_alloc _ _
 have hbW : Below w.heap.size w W:=by rw [hW];exact bal (bal (Below.refl _ _) _) _
 have la3 : Live W w.heap.size 3 (.slice aa n ca):=by rw [hW];exact (Live.fresh _ _ _ 3 _ rfl).alloc _
 have lb3 : Live W (w.heap.size + 1) 3 (.slice ab n cb):=by rw [hW,← hs1];exact Live.fresh _ _ _ 3 _ rfl
 have e1:=fun w=>neqNote ⟨#[]⟩ vt 0 w
 have g1:=fun x y w=>guardNote .neq x y #[.string ⟨#[]⟩,.string vt,.int .i64 0] #[.string ⟨#[]⟩,.string vt,.int .i64 0] w
 have HCA:=Lib.hid hca
 have HCB:=Lib.hid hcb
 have HNT:=Lib.hid hnt
 have HLEN:=Lib.hid hlen
 have HN:=Lib.hid hn
 have HBW:=Lib.hid hbW
 have LA3:=Lib.hid la3
 have LB3:=Lib.hid lb3
 clear hca hcb hnt hlen hn hbW la3 lb3
 clear hs1
 go_enter Tryz.func49,Tryz.ntmps49
 go_wp2_with fail
 rw [← hW]
 clear hW e1 g1
 go_loopw [33] (fun iv wr=>∃ k : Nat,iv = .int .i64 (k : Int) ∧ k ≤ n ∧ Below W.heap.size W wr) (fun iv _=>n - (intOf iv).toNat)
 case atStart=>exact ⟨0,rfl,Nat.zero_le _,Below.refl _ _⟩
 case round=>
  obtain ⟨k,rfl,hk,hbel⟩:=hrel
  by_cases hlt : k < n
  · obtain ⟨x,hx⟩:=at_some la k (by rw [← HN.out];exact hlt)
    obtain ⟨y,hy⟩:=at_some lb k (by rw [← HLEN.out,← HN.out];exact hlt)
    obtain ⟨q1,q2⟩:=HNT.out k x y hx hy
    obtain ⟨ga,oa,rfl,a0,a1,a2⟩:=nt_at HCA.out k x hx
    obtain ⟨gb,ob,rfl,b0,b1,b2⟩:=nt_at HCB.out k y hy
    rw [← q1] at b0
    rw [← q2] at b1
    have a0:=kc hbel (kc HBW.out a0)
    have a1:=kc hbel (kc HBW.out a1)
    have a2:=kc hbel (kc HBW.out a2)
    have b0:=kc hbel (kc HBW.out b0)
    have b1:=kc hbel (kc HBW.out b1)
    have b2:=kc hbel (kc HBW.out b2)
    have c3:=kc hbel LA3.out.1
    have d3:=kc hbel LB3.out.1
    have m0 : (0 : Int) ≤ (k : Int):=by omega
    have m1 : (k : Int) < (n : Int):=by omega
    have e1:=fun w=>neqNote x.name x.text 0 w
    have g1:=fun p q w=>guardNote .neq p q #[.string x.name,.string x.text,.int .i64 0] #[.string x.name,.string x.text,.int .i64 0] w
    generalize x.name = xn at *
    generalize x.text = xt at *
    generalize x.set = xs at *
    generalize y.set = ys at *
    have n0:=World.new_ne _ _ a0
    have n1:=World.new_ne _ _ b0
    have n2:=World.new_ne _ _ c3
    have n3:=World.new_ne _ _ d3
    clear hx hy q1 q2
    go_wp2_with fail
    go_region_held3 (fun w'=>w'.cell? ⟨w.heap.size,3,none⟩ = some (.slice (some ⟨ga,oa,none⟩) n ca) ∧ w'.cell? ⟨w.heap.size + 1,3,none⟩ = some (.slice (some ⟨gb,ob,none⟩) n cb) ∧ w'.cell? ⟨ga,oa + k * 3,none⟩ = some (.string xn) ∧ w'.cell? ⟨ga,oa + k * 3 + 1,none⟩ = some (.string xt) ∧ w'.cell? ⟨ga,oa + k * 3 + 2,none⟩ = some (.int .i64 xs) ∧ w'.cell? ⟨gb,ob + k * 3,none⟩ = some (.string xn) ∧ w'.cell? ⟨gb,ob + k * 3 + 1,none⟩ = some (.string xt) ∧ w'.cell? ⟨gb,ob + k * 3 + 2,none⟩ = some (.int .i64 ys)) (go_keep) (fail)
    all_goals
     go_wp2_with fail
     exact ⟨⟨k + 1,by go_num,by omega,(bal (bal hbel _) _).drew⟩,by simp [intOf];omega⟩
  · have hbz:=HBW.out.trans (hbel.mono HBW.out.size)
    have m1 : ¬ (k : Int) < (n : Int):=by omega
    have HBZ:=Lib.hid hbz
    clear hbz
    go_wp2_with fail
    go_ret
    exact ⟨rfl,HBZ.out⟩
end Go.Proofs.YtnbglcaeekppjaaGreatDoor
