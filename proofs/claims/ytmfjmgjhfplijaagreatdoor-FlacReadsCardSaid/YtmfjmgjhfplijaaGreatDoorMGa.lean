/- Ga -/
import Derived.Test.YtmfjmgjhfplijaaGreatDoorMFb
set_option linter.unusedVariables false
set_option linter.unusedSimpArgs false
set_option maxHeartbeats 8000000
namespace Go.Proofs.YtmfjmgjhfplijaaGreatDoor
open Go.RowKit
def inV (x : RS) : Value:=.agg #[.string x.s,.int .i64 x.n,.int .i64 x.b,.int .i64 x.e,.int .i64 x.a]
theorem rleft_any (x : RS) (w : World) (hk : okR x) : Calls Tryz.prog 95 #[inV x] w fun e w'=>e = .returned (.int .i64 (leftR x)) ∧ Below w.heap.size w w':=by
 obtain ⟨s,n,b,e,a⟩:=x
 obtain ⟨h1,h2,_⟩:=hk
 unfold inV leftR
 simp only at h1 h2 ⊢
 obtain ⟨c0,_⟩:=Live.fresh w #[.string s,.int .i64 n,.int .i64 b,.int .i64 e,.int .i64 a] 109 0 _ rfl
 obtain ⟨c1,_⟩:=Live.fresh w #[.string s,.int .i64 n,.int .i64 b,.int .i64 e,.int .i64 a] 109 1 _ rfl
 obtain ⟨c3,_⟩:=Live.fresh w #[.string s,.int .i64 n,.int .i64 b,.int .i64 e,.int .i64 a] 109 3 _ rfl
 have hbe:=bal (Below.refl w.heap.size w) (.cells #[.string s,.int .i64 n,.int .i64 b,.int .i64 e,.int .i64 a] 109)
 have HBE:=Lib.hid hbe
 clear hbe
 by_cases he : e = 0
 · have d3 : (e != 0) = false:=by rw [bne_eq_false_iff_eq];exact he
   have hw : IntKind.i64.wrap ((s.size : Int) - n) = (s.size : Int) - n:=wi64 _ (by omega) (by omega)
   rw [if_neg (by simpa using he)]
   clear he
   go_enter Tryz.func95,Tryz.ntmps95
   go_wp2_with fail
   go_ret
   exact ⟨rfl,HBE.out⟩
 · have d3 : (e != 0) = true:=by rw [bne_iff_ne];exact he
   rw [if_pos he]
   clear he
   go_enter Tryz.func95,Tryz.ntmps95
   go_wp2_with fail
   go_ret
   exact ⟨rfl,HBE.out⟩
theorem set5 {w W : World} {H : Nat} (hb : Below w.heap.size w W) (hH : w.heap.size ≤ H) (a b c d e : Value) : Below w.heap.size w (((((W.setCell ⟨H,0,none⟩ a).setCell ⟨H,1,none⟩ b).setCell ⟨H,2,none⟩ c).setCell ⟨H,3,none⟩ d).setCell ⟨H,4,none⟩ e):=
 ((((hb.setCell hH _).setCell hH _).setCell hH _).setCell hH _).setCell hH _
def st5 (w : World) (H : Nat) (a b c d e : Value) : World:=((((w.setCell ⟨H,0,none⟩ a).setCell ⟨H,1,none⟩ b).setCell ⟨H,2,none⟩ c).setCell ⟨H,3,none⟩ d).setCell ⟨H,4,none⟩ e
theorem st5_blk {w : World} {H : Nat} {t : TypeId} {a0 a1 a2 a3 a4 : Value} (h : w.heap[H]? = some (.cells #[a0,a1,a2,a3,a4] t (0,0))) (b0 b1 b2 b3 b4 : Value) : (st5 w H b0 b1 b2 b3 b4).heap[H]? = some (.cells #[b0,b1,b2,b3,b4] t (0,0)):=by
 have s0:=Go.Lib.heap_setCell_same (i:=0) h b0
 have s1:=Go.Lib.heap_setCell_same (i:=1) s0 b1
 have s2:=Go.Lib.heap_setCell_same (i:=2) s1 b2
 have s3:=Go.Lib.heap_setCell_same (i:=3) s2 b3
 have s4:=Go.Lib.heap_setCell_same (i:=4) s3 b4
 unfold st5
 rw [s4]
 simp
theorem st5_other (w : World) (H : Nat) (b0 b1 b2 b3 b4 : Value) (q : Nat) (hq : q ≠ H) : (st5 w H b0 b1 b2 b3 b4).heap[q]? = w.heap[q]?:=by
 unfold st5
 rw [Below.heap_setCell _ _ _ q hq,Below.heap_setCell _ _ _ q hq,Below.heap_setCell _ _ _ q hq,Below.heap_setCell _ _ _ q hq,Below.heap_setCell _ _ _ q hq]
theorem st5_below {v w : World} {H : Nat} (hb : Below v.heap.size v w) (hH : v.heap.size ≤ H) (a b c d e : Value) : Below v.heap.size v (st5 w H a b c d e):=set5 hb hH a b c d e
theorem rfail_any (x : RS) (c p : Int) (w : World) : Calls Tryz.prog 47 #[inV x,.int .i64 c,.int .i64 p] w fun e w'=>e = .returned (inV (failR x c p)) ∧ Below w.heap.size w w':=by
 obtain ⟨s,n,b,e,a⟩:=x
 unfold inV failR
 simp only
 obtain ⟨W,hW⟩ : ∃ W,W = (w.alloc (.cells #[.string s,.int .i64 n,.int .i64 b,.int .i64 e,.int .i64 a] 109)).alloc (.cells #[.string ⟨#[]⟩,.int .i64 0,.int .i64 0,.int .i64 0,.int .i64 0] 109):=⟨_,rfl⟩
 have hs1 : (w.alloc (.cells #[.string s,.int .i64 n,.int .i64 b,.int .i64 e,.int .i64 a] 109)).heap.size = w.heap.size + 1:=World.size_alloc _ _
 have hbW : Below w.heap.size w W:=by rw [hW];exact bal (bal (Below.refl _ _) _) _
 have lc : ∀ (i : Nat) (u : Value),(#[.string s,.int .i64 n,.int .i64 b,.int .i64 e,.int .i64 a] : Array Value)[i]? = some u → Live W w.heap.size i u:=by
  intro i u hu;rw [hW];exact (Live.fresh w _ 109 i u hu).alloc _
 have lz : ∀ (i : Nat) (u : Value),(#[.string ⟨#[]⟩,.int .i64 0,.int .i64 0,.int .i64 0,.int .i64 0] : Array Value)[i]? = some u → Live W (w.heap.size + 1) i u:=by
  intro i u hu;rw [hW,← hs1];exact Live.fresh _ _ 109 i u hu
 obtain ⟨c0,c0'⟩:=lc 0 _ rfl
 obtain ⟨c1,c1'⟩:=lc 1 _ rfl
 obtain ⟨c2,c2'⟩:=lc 2 _ rfl
 obtain ⟨c3,c3'⟩:=lc 3 _ rfl
 obtain ⟨c4,c4'⟩:=lc 4 _ rfl
 have Z0:=Lib.hid (lz 0 _ rfl)
 have Z1:=Lib.hid (lz 1 _ rfl)
 have Z2:=Lib.hid (lz 2 _ rfl)
 have Z3:=Lib.hid (lz 3 _ rfl)
 have Z4:=Lib.hid (lz 4 _ rfl)
 clear lc lz hs1
 have HBW:=Lib.hid hbW
 clear hbW
 by_cases he : e = 0
 · subst he
   by_cases hc : c = 0
   · subst hc
     rw [if_neg (by simp)]
     go_enter Tryz.func47,Tryz.ntmps47
     go_wp2_with fail
     have lf : ∀ (i : Nat) (u : Value),(#[.string s,.int .i64 n,.int .i64 b,.int .i64 0,.int .i64 a] : Array Value)[i]? = some u → Live ((w.alloc (.cells #[.string s,.int .i64 n,.int .i64 b,.int .i64 0,.int .i64 a] 109)).alloc (.cells #[.string s,.int .i64 n,.int .i64 b,.int .i64 0,.int .i64 a] 109)) (w.heap.size + 1) i u:=by intro i u hu;rw [← World.size_alloc w (.cells #[.string s,.int .i64 n,.int .i64 b,.int .i64 0,.int .i64 a] 109)];exact Live.fresh _ _ _ i u hu
     obtain ⟨q0,q0'⟩:=lf 0 _ rfl
     obtain ⟨q1,q1'⟩:=lf 1 _ rfl
     obtain ⟨q2,q2'⟩:=lf 2 _ rfl
     obtain ⟨q3,q3'⟩:=lf 3 _ rfl
     obtain ⟨q4,q4'⟩:=lf 4 _ rfl
     refine bodyPost_ret (v:=.agg #[.string s,.int .i64 n,.int .i64 b,.int .i64 0,.int .i64 a]) (by simp [results,Tryz.results47,go_sem,q0,q1,q2,q3,q4,q0',q1',q2',q3',q4']) rfl ?_
     exact ⟨rfl,bal (bal (Below.refl _ _) _) _⟩
   · have d3 : (c != 0) = true:=by rw [bne_iff_ne];exact hc
     rw [if_pos ⟨rfl,hc⟩]
     clear hc
     go_enter Tryz.func47,Tryz.ntmps47
     go_wp2_with fail
     have lf : ∀ (i : Nat) (u : Value),(#[.string s,.int .i64 n,.int .i64 b,.int .i64 c,.int .i64 p] : Array Value)[i]? = some u → Live ((w.alloc (.cells #[.string s,.int .i64 n,.int .i64 b,.int .i64 c,.int .i64 p] 109)).alloc (.cells #[.string s,.int .i64 n,.int .i64 b,.int .i64 c,.int .i64 p] 109)) (w.heap.size + 1) i u:=by intro i u hu;rw [← World.size_alloc w (.cells #[.string s,.int .i64 n,.int .i64 b,.int .i64 c,.int .i64 p] 109)];exact Live.fresh _ _ _ i u hu
     obtain ⟨q0,q0'⟩:=lf 0 _ rfl
     obtain ⟨q1,q1'⟩:=lf 1 _ rfl
     obtain ⟨q2,q2'⟩:=lf 2 _ rfl
     obtain ⟨q3,q3'⟩:=lf 3 _ rfl
     obtain ⟨q4,q4'⟩:=lf 4 _ rfl
     refine bodyPost_ret (v:=.agg #[.string s,.int .i64 n,.int .i64 b,.int .i64 c,.int .i64 p]) (by simp [results,Tryz.results47,go_sem,q0,q1,q2,q3,q4,q0',q1',q2',q3',q4']) rfl ?_
     exact ⟨rfl,bal (bal (Below.refl _ _) _) _⟩
 · have d3 : (e == 0) = false:=by rw [beq_eq_false_iff_ne];exact he
   rw [if_neg (by intro h;exact he h.1)]
   clear he
   go_enter Tryz.func47,Tryz.ntmps47
   go_wp2_with fail
   have lf : ∀ (i : Nat) (u : Value),(#[.string s,.int .i64 n,.int .i64 b,.int .i64 e,.int .i64 a] : Array Value)[i]? = some u → Live ((w.alloc (.cells #[.string s,.int .i64 n,.int .i64 b,.int .i64 e,.int .i64 a] 109)).alloc (.cells #[.string s,.int .i64 n,.int .i64 b,.int .i64 e,.int .i64 a] 109)) (w.heap.size + 1) i u:=by intro i u hu;rw [← World.size_alloc w (.cells #[.string s,.int .i64 n,.int .i64 b,.int .i64 e,.int .i64 a] 109)];exact Live.fresh _ _ _ i u hu
   obtain ⟨q0,q0'⟩:=lf 0 _ rfl
   obtain ⟨q1,q1'⟩:=lf 1 _ rfl
   obtain ⟨q2,q2'⟩:=lf 2 _ rfl
   obtain ⟨q3,q3'⟩:=lf 3 _ rfl
   obtain ⟨q4,q4'⟩:=lf 4 _ rfl
   refine bodyPost_ret (v:=.agg #[.string s,.int .i64 n,.int .i64 b,.int .i64 e,.int .i64 a]) (by simp [results,Tryz.results47,go_sem,q0,q1,q2,q3,q4,q0',q1',q2',q3',q4']) rfl ?_
   exact ⟨rfl,bal (bal (Below.refl _ _) _) _⟩
set_option maxRecDepth 100000 in
theorem rtake_any (x : RS) (k : Int) (w : World) (hk : okR x) (h0 : -4611686018427387904 ≤ k) (h1 : k ≤ 4611686018427387904) : Calls Tryz.prog 44 #[inV x,.int .i64 k] w fun e w'=>e = .returned (.tuple #[inV (takeR x k).1,.string (takeR x k).2]) ∧ Below w.heap.size w w':=by
 have kl:=fun w=>rleft_any x w hk
 have kf:=fun w=>rfail_any x 1 ((x.b : Int) + x.s.size) w
 have hlf : x.e = 0 → leftR x = (x.s.size : Int) - x.n:=fun h=>by unfold leftR;rw [if_neg (by simpa using h)]
 unfold takeR shortR
 generalize leftR x = L at *
 generalize failR x 1 ((x.b : Int) + x.s.size) = F at *
 obtain ⟨s,n,b,e,a⟩:=x
 obtain ⟨q1,q2,q3⟩:=hk
 obtain ⟨Fs,Fn,Fb,Fe,Fa⟩:=F
 unfold inV at kl kf ⊢
 simp only at q1 q2 q3 kl kf hlf ⊢
 obtain ⟨W,hW⟩ : ∃ W,W = (w.alloc (.cells #[.string s,.int .i64 n,.int .i64 b,.int .i64 e,.int .i64 a] 109)).alloc (.cells #[.string ⟨#[]⟩,.int .i64 0,.int .i64 0,.int .i64 0,.int .i64 0] 109):=⟨_,rfl⟩
 have hs1 : (w.alloc (.cells #[.string s,.int .i64 n,.int .i64 b,.int .i64 e,.int .i64 a] 109)).heap.size = w.heap.size + 1:=World.size_alloc _ _
 have hbW : Below w.heap.size w W:=by rw [hW];exact bal (bal (Below.refl _ _) _) _
 have lc : ∀ (i : Nat) (u : Value),(#[.string s,.int .i64 n,.int .i64 b,.int .i64 e,.int .i64 a] : Array Value)[i]? = some u → Live W w.heap.size i u:=by
  intro i u hu;rw [hW];exact (Live.fresh w _ 109 i u hu).alloc _
 have lz : ∀ (i : Nat) (u : Value),(#[.string ⟨#[]⟩,.int .i64 0,.int .i64 0,.int .i64 0,.int .i64 0] : Array Value)[i]? = some u → Live W (w.heap.size + 1) i u:=by
  intro i u hu;rw [hW,← hs1];exact Live.fresh _ _ 109 i u hu
 obtain ⟨c0,c0'⟩:=lc 0 _ rfl
 obtain ⟨c1,c1'⟩:=lc 1 _ rfl
 obtain ⟨c2,c2'⟩:=lc 2 _ rfl
 obtain ⟨c3,c3'⟩:=lc 3 _ rfl
 obtain ⟨c4,c4'⟩:=lc 4 _ rfl
 have Z0:=Lib.hid (lz 0 _ rfl)
 have Z1:=Lib.hid (lz 1 _ rfl)
 have Z2:=Lib.hid (lz 2 _ rfl)
 have Z3:=Lib.hid (lz 3 _ rfl)
 have Z4:=Lib.hid (lz 4 _ rfl)
 have L1:=Lib.hid (lc 1 _ rfl)
 clear lc lz hs1
 have HBW:=Lib.hid hbW
 have KL:=Lib.hid kl
 have KF:=Lib.hid kf
 clear hbW kl kf
 by_cases he : e = 0
 · have d3 : (e != 0) = false:=by rw [bne_eq_false_iff_eq];exact he
   have hL:=hlf he
   rw [if_neg (by simpa using he)]
   by_cases hn : k < 0
   · rw [if_pos (.inl hn)]
     have hnd : decide (k < 0) = true:=decide_eq_true hn
     have hw : IntKind.i64.wrap ((b : Int) + s.size) = (b : Int) + s.size:=wi64 _ (by omega) (by omega)
     clear hlf hL he
     go_enter Tryz.func44,Tryz.ntmps44
     go_wp2_with fail
     rw [← hW]
     clear hW
     go_wp2_with (first
      | (go_at_call 95;go_loud (with_reducible refine (KL.out _).mono ?_);go_loud (rintro e1 w1 ⟨rfl,hb1⟩))
      | (go_at_call 47;go_loud (with_reducible refine (KF.out _).mono ?_);go_loud (rintro e1 w1 ⟨rfl,hb1⟩);go_loud (obtain ⟨q0,q0'⟩:=Z0.out.keep hb1);go_loud (obtain ⟨q1,q1'⟩:=Z1.out.keep hb1);go_loud (obtain ⟨q2,q2'⟩:=Z2.out.keep hb1);go_loud (obtain ⟨q3,q3'⟩:=Z3.out.keep hb1);go_loud (obtain ⟨q4,q4'⟩:=Z4.out.keep hb1)))
     refine bodyPost_ret (v:=.tuple #[.agg #[.string Fs,.int .i64 Fn,.int .i64 Fb,.int .i64 Fe,.int .i64 Fa],.string ⟨#[]⟩]) (by simp [results,Tryz.results44,go_sem,q0,q1,q2,q3,q4,q0',q1',q2',q3',q4']) rfl ?_
     exact ⟨rfl,set5 (bt HBW.out hb1) (by simp) _ _ _ _ _⟩
   · have hnd : decide (k < 0) = false:=decide_eq_false hn
     by_cases hg : (s.size : Int) - n < k
     · rw [if_pos (.inr hg)]
       have hw : IntKind.i64.wrap ((b : Int) + s.size) = (b : Int) + s.size:=wi64 _ (by omega) (by omega)
       have d5 : k > L:=by rw [hL];exact hg
       clear hlf hL he hg
       go_enter Tryz.func44,Tryz.ntmps44
       go_wp2_with fail
       rw [← hW]
       clear hW
       go_wp2_with (first
        | (go_at_call 95;go_loud (with_reducible refine (KL.out _).mono ?_);go_loud (rintro e1 w1 ⟨rfl,hb1⟩);go_loud (have c0:=kc hb1 c0);go_loud (have c1:=kc hb1 c1);go_loud (have c2:=kc hb1 c2);go_loud (have c3:=kc hb1 c3);go_loud (have c4:=kc hb1 c4))
        | (go_at_call 47;go_loud (with_reducible refine (KF.out _).mono ?_);go_loud (rintro e1 w2 ⟨rfl,hb2⟩);go_loud (have hb12:=bt hb1 hb2);go_loud (obtain ⟨q0,q0'⟩:=Z0.out.keep hb12);go_loud (obtain ⟨q1,q1'⟩:=Z1.out.keep hb12);go_loud (obtain ⟨q2,q2'⟩:=Z2.out.keep hb12);go_loud (obtain ⟨q3,q3'⟩:=Z3.out.keep hb12);go_loud (obtain ⟨q4,q4'⟩:=Z4.out.keep hb12)))
       refine bodyPost_ret (v:=.tuple #[.agg #[.string Fs,.int .i64 Fn,.int .i64 Fb,.int .i64 Fe,.int .i64 Fa],.string ⟨#[]⟩]) (by simp [results,Tryz.results44,go_sem,q0,q1,q2,q3,q4,q0',q1',q2',q3',q4']) rfl ?_
       exact ⟨rfl,set5 (bt HBW.out hb12) (by simp) _ _ _ _ _⟩
     · rw [if_neg (by omega)]
       have d5 : ¬ k > L:=by rw [hL];omega
       obtain ⟨m,hm⟩ : ∃ m : Nat,(m : Int) = k:=⟨k.toNat,by omega⟩
       subst hm
       have hnd : decide ((m : Int) < 0) = false:=decide_eq_false hn
       have hw : IntKind.i64.wrap ((n : Int) + m) = (n : Int) + m:=by rw [wi64 _ (by omega) (by omega)]
       have hz1 : (0 : Int) ≤ (n : Int):=by omega
       have hz2 : (n : Int) ≤ (n : Int) + m:=by omega
       have hz3 : (n : Int) + m ≤ (s.size : Int):=by omega
       have ht : (m : Int).toNat = m:=by omega
       have ht2 : ((n : Int) + m).toNat = n + m:=by omega
       rw [ht]
       clear hlf hL he hg hn
       go_enter Tryz.func44,Tryz.ntmps44
       go_wp2_with fail
       rw [← hW]
       clear hW
       go_wp2_with (go_at_call 95;go_loud (with_reducible refine (KL.out _).mono ?_);go_loud (rintro e1 w1 ⟨rfl,hb1⟩);go_loud (have c0:=kc hb1 c0);go_loud (obtain ⟨c1,c1'⟩:=L1.out.keep hb1);go_loud (have c2:=kc hb1 c2);go_loud (have c3:=kc hb1 c3);go_loud (have c4:=kc hb1 c4);go_loud (obtain ⟨q0,q0'⟩:=Z0.out.keep hb1);go_loud (obtain ⟨q1,q1'⟩:=Z1.out.keep hb1);go_loud (obtain ⟨q2,q2'⟩:=Z2.out.keep hb1);go_loud (obtain ⟨q3,q3'⟩:=Z3.out.keep hb1);go_loud (obtain ⟨q4,q4'⟩:=Z4.out.keep hb1))
       refine bodyPost_ret (v:=.tuple #[.agg #[.string s,.int .i64 ((n : Int) + m),.int .i64 b,.int .i64 e,.int .i64 a],.string (s.extract n (n + m))]) (by simp [results,Tryz.results44,go_sem,q0,q1,q2,q3,q4,q0',q1',q2',q3',q4']) rfl ?_
       exact ⟨by simp,set5 ((bt HBW.out hb1).setCell (by simp) _) (by simp) _ _ _ _ _⟩
 · have d3 : (e != 0) = true:=by rw [bne_iff_ne];exact he
   rw [if_pos he]
   clear he hlf
   go_enter Tryz.func44,Tryz.ntmps44
   go_wp2_with fail
   have lf : ∀ (i : Nat) (u : Value),(#[.string s,.int .i64 n,.int .i64 b,.int .i64 e,.int .i64 a] : Array Value)[i]? = some u → Live ((w.alloc (.cells #[.string s,.int .i64 n,.int .i64 b,.int .i64 e,.int .i64 a] 109)).alloc (.cells #[.string s,.int .i64 n,.int .i64 b,.int .i64 e,.int .i64 a] 109)) (w.heap.size + 1) i u:=by intro i u hu;rw [← World.size_alloc w (.cells #[.string s,.int .i64 n,.int .i64 b,.int .i64 e,.int .i64 a] 109)];exact Live.fresh _ _ _ i u hu
   obtain ⟨q0,q0'⟩:=lf 0 _ rfl
   obtain ⟨q1,q1'⟩:=lf 1 _ rfl
   obtain ⟨q2,q2'⟩:=lf 2 _ rfl
   obtain ⟨q3,q3'⟩:=lf 3 _ rfl
   obtain ⟨q4,q4'⟩:=lf 4 _ rfl
   refine bodyPost_ret (v:=.tuple #[.agg #[.string s,.int .i64 n,.int .i64 b,.int .i64 e,.int .i64 a],.string ⟨#[]⟩]) (by simp [results,Tryz.results44,go_sem,q0,q1,q2,q3,q4,q0',q1',q2',q3',q4']) rfl ?_
   exact ⟨rfl,bal (bal (Below.refl _ _) _) _⟩
theorem rnumber_any (s : ByteArray) (w : World) (hs : s.size ≤ 7) : Calls Tryz.prog 45 #[.string s] w fun e w'=>e = .returned (.int .u64 (beN (bl s) : Int)) ∧ w = w':=by
 have HL : Hid ((bl s).length = s.size):=bl_length s
 go_enter Tryz.func45,Tryz.ntmps45
 go_wp2_with fail
 go_loop [3,4] (fun n i=>∃ j : Nat,i = .int .i64 (j : Int) ∧ n = .int .u64 (beN ((bl s).take j) : Int) ∧ j ≤ s.size) (fun _ i=>s.size - (intOf i).toNat)
 case atStart=>exact ⟨0,rfl,rfl,Nat.zero_le _⟩
 case round=>
  obtain ⟨j,rfl,rfl,hjt⟩:=hrel
  by_cases hlt : j < s.size
  · obtain ⟨c,hc⟩:=at_some (bl s) j (by rw [HL.out];exact hlt)
    have C : ∀ h,s[j]'h = c:=atB_of s j c hc
    have hst:=beN_step (bl s) j c hc
    have hb:=beN_lt ((bl s).take j)
    have hcl:=c.toNat_lt
    have hb2 : beN ((bl s).take j) < 281474976710656:=by
     refine Nat.lt_of_lt_of_le hb ?_
     have : ((bl s).take j).length ≤ 6:=by rw [List.length_take];omega
     exact Nat.le_trans (Nat.pow_le_pow_right (by decide) this) (by decide)
    clear hb hc
    generalize beN ((bl s).take j) = q at *
    have hw1 : IntKind.u64.wrap ((q : Int) * 256) = (q : Int) * 256:=wrapsu64 _ (by omega) (by omega)
    have hw2 : IntKind.u64.wrap ((q : Int) * 256 + c.toNat) = (q : Int) * 256 + c.toNat:=wrapsu64 _ (by omega) (by omega)
    have HST:=Lib.hid hst
    have HB2:=Lib.hid hb2
    clear hst hb2
    go_wp2_with fail
    exact ⟨⟨j + 1,by go_num,by rw [HST.out];congr 1,by omega⟩,by simp [intOf];omega⟩
  · have hjn : j = s.size:=by omega
    have hall : (bl s).take j = bl s:=List.take_of_length_le (by rw [HL.out];omega)
    rw [hall]
    clear hjn hall
    go_wp2_with fail
    go_ret
    exact ⟨rfl,rfl⟩
theorem beN_rev (l : List UInt8) : beN l.reverse = leN l:=by
 induction l with
 | nil=>rfl
 | cons a l ih=>rw [List.reverse_cons,beN_snoc,ih,leN];omega
def revB (s : ByteArray) : ByteArray:=⟨(bl s).reverse.toArray⟩
theorem rback_any (s : ByteArray) (w : World) (hs : s.size ≤ 8) : Calls Tryz.prog 137 #[.string s] w fun e w'=>e = .returned (.string (revB s)) ∧ w = w':=by
 have HL : Hid ((bl s).length = s.size):=bl_length s
 go_enter Tryz.func137,Tryz.ntmps137
 go_wp2_with fail
 go_loop [3,4] (fun t i=>∃ (j : Nat) (T : ByteArray),i = .int .i64 (j : Int) ∧ t = .string T ∧ T.size = j ∧ Hid (bl T = ((bl s).take j).reverse) ∧ j ≤ s.size) (fun _ i=>s.size - (intOf i).toNat)
 case atStart=>exact ⟨0,⟨#[]⟩,rfl,rfl,rfl,Lib.hid (by simp),Nat.zero_le _⟩
 case round=>
  obtain ⟨j,T,rfl,rfl,hT,hA,hjt⟩:=hrel
  by_cases hlt : j < s.size
  · obtain ⟨c,hc⟩:=at_some (bl s) j (by rw [HL.out];exact hlt)
    have he : Hid (bl (s.extract j (j + 1) ++ T) = ((bl s).take (j + 1)).reverse):=Lib.hid (by
     obtain ⟨h1,h2⟩:=List.getElem?_eq_some_iff.1 hc
     show (s.extract j (j + 1) ++ T).data.toList = _
     rw [ByteArray.data_append,Array.toList_append,ByteArray.data_extract,Array.toList_extract,List.extract_eq_take_drop]
     rw [List.take_succ_eq_append_getElem h1,List.reverse_append,← hA.out]
     show ((bl s).drop j).take (j + 1 - j) ++ bl T = [_] ++ bl T
     rw [List.drop_eq_getElem_cons h1,show j + 1 - j = 1 by omega]
     rfl)
    have hz : (s.extract j (j + 1) ++ T).size = j + 1:=by rw [ByteArray.size_append,ByteArray.size_extract];omega
    have hTs : T.size ≤ 8:=by omega
    have m0 : (0 : Int) ≤ (j : Int):=by omega
    have m1 : (j : Int) ≤ (j : Int) + 1:=by omega
    have m2 : (j : Int) + 1 ≤ (s.size : Int):=by omega
    have ht : ((j : Int) + 1).toNat = j + 1:=by omega
    have HZ:=Lib.hid hz
    clear hz
    clear hA hc
    go_wp2_with fail
    exact ⟨⟨j + 1,_,by go_num,rfl,HZ.out,he,by omega⟩,by simp [intOf];omega⟩
  · have hjn : j = s.size:=by omega
    have hall : (bl s).take j = bl s:=List.take_of_length_le (by rw [HL.out];omega)
    have he : Hid (T = revB s):=Lib.hid (ByteArray.ext (Array.toList_inj.1 (by have:=hA.out;rw [hall] at this;exact this)))
    clear hjn hall hA
    go_wp2_with fail
    go_ret
    exact ⟨ret_s he.out,rfl⟩
theorem fd_nil (l : List UInt8) (k : Nat) : firstDiff l [] k = none:=by cases l <;> rfl
theorem fd_nil' (l : List UInt8) (k : Nat) : firstDiff [] l k = none:=by cases l <;> rfl
set_option maxRecDepth 100000 in
theorem rwant_any (x : RS) (t : ByteArray) (w : World) (hk : okR x) (ht : t.size ≤ 1000) : Calls Tryz.prog 43 #[inV x,.string t] w fun e w'=>e = .returned (.tuple #[inV (wantR x t).1,.bool (wantR x t).2]) ∧ Below w.heap.size w w':=by
 obtain ⟨P,hP⟩ : ∃ P,P = wantR x t:=⟨_,rfl⟩
 rw [← hP]
 unfold wantR shortR at hP
 obtain ⟨D,hD⟩ : ∃ D,D = firstDiff (bl t) ((bl x.s).drop x.n) 0:=⟨_,rfl⟩
 rw [← hD] at hP
 have kf:=fun (p : Int) w=>rfail_any x 1 p w
 obtain ⟨s,n,b,e,a⟩:=x
 obtain ⟨o1,o2,o3⟩:=hk
 have hf : Hid (∀ (F : RS),Hid (F = F)):=Lib.hid fun F=>Lib.hid rfl
 unfold inV at kf ⊢
 simp only at o1 o2 o3 kf hP hD ⊢
 have HL : Hid ((bl t).length = t.size):=bl_length t
 have HU : Hid ((bl s).length = s.size):=bl_length s
 obtain ⟨W,hW⟩ : ∃ W,W = (w.alloc (.cells #[.string s,.int .i64 n,.int .i64 b,.int .i64 e,.int .i64 a] 109)).alloc (.cells #[.string ⟨#[]⟩,.int .i64 0,.int .i64 0,.int .i64 0,.int .i64 0] 109):=⟨_,rfl⟩
 have hs1 : (w.alloc (.cells #[.string s,.int .i64 n,.int .i64 b,.int .i64 e,.int .i64 a] 109)).heap.size = w.heap.size + 1:=World.size_alloc _ _
 have hbW : Below w.heap.size w W:=by rw [hW];exact bal (bal (Below.refl _ _) _) _
 have lc : ∀ (i : Nat) (u : Value),(#[.string s,.int .i64 n,.int .i64 b,.int .i64 e,.int .i64 a] : Array Value)[i]? = some u → Live W w.heap.size i u:=by
  intro i u hu;rw [hW];exact (Live.fresh w _ 109 i u hu).alloc _
 have lz : ∀ (i : Nat) (u : Value),(#[.string ⟨#[]⟩,.int .i64 0,.int .i64 0,.int .i64 0,.int .i64 0] : Array Value)[i]? = some u → Live W (w.heap.size + 1) i u:=by
  intro i u hu;rw [hW,← hs1];exact Live.fresh _ _ 109 i u hu
 obtain ⟨c0,c0'⟩:=lc 0 _ rfl
 obtain ⟨c1,c1'⟩:=lc 1 _ rfl
 obtain ⟨c2,c2'⟩:=lc 2 _ rfl
 obtain ⟨c3,c3'⟩:=lc 3 _ rfl
 obtain ⟨c4,c4'⟩:=lc 4 _ rfl
 have Z0:=Lib.hid (lz 0 _ rfl)
 have Z1:=Lib.hid (lz 1 _ rfl)
 have Z2:=Lib.hid (lz 2 _ rfl)
 have Z3:=Lib.hid (lz 3 _ rfl)
 have Z4:=Lib.hid (lz 4 _ rfl)
 have L1:=Lib.hid (lc 1 _ rfl)
 have L0:=Lib.hid (lc 0 _ rfl).1
 have L2:=Lib.hid (lc 2 _ rfl).1
 have L3:=Lib.hid (lc 3 _ rfl).1
 have L4:=Lib.hid (lc 4 _ rfl).1
 clear lc lz hs1 hf
 have HBW:=Lib.hid hbW
 have KF:=Lib.hid kf
 have HD:=Lib.hid hD
 clear hbW kf hD
 by_cases he : e = 0
 · have d3 : (e != 0) = false:=by rw [bne_eq_false_iff_eq];exact he
   rw [if_neg (by simpa using he)] at hP
   have HP:=Lib.hid hP
   clear hP
   clear he
   go_enter Tryz.func43,Tryz.ntmps43
   go_wp2_with fail
   rw [← hW]
   clear hW
   go_wp2_with fail
   go_loopw [6] (fun i wr=>∃ j : Nat,i = .int .i64 (j : Int) ∧ j ≤ t.size ∧ n + j ≤ s.size ∧ Hid (firstDiff ((bl t).drop j) ((bl s).drop (n + j)) j = D) ∧ Below W.heap.size W wr) (fun i _=>t.size - (intOf i).toNat)
   case atStart=>exact ⟨0,rfl,Nat.zero_le _,o1,Lib.hid (by rw [List.drop_zero,HD.out];rfl),Below.refl _ _⟩
   case round=>
    obtain ⟨j,rfl,hj,hnj,hA,hbel⟩:=hrel
    clear c0 c0' c1 c1' c2 c2' c3 c3' c4 c4'
    have c0:=kc hbel L0.out
    obtain ⟨c1,c1'⟩:=L1.out.keep hbel
    have c2:=kc hbel L2.out
    have c3:=kc hbel L3.out
    have c4:=kc hbel L4.out
    have wn : IntKind.i64.wrap ((n : Int) + (j : Int)) = (n : Int) + j:=wi64 _ (by omega) (by omega)
    by_cases hlt : j < t.size
    · by_cases hge : s.size ≤ n + j
      · have dg : (n : Int) + (j : Int) ≥ (s.size : Int):=by omega
        have hw : IntKind.i64.wrap ((b : Int) + s.size) = (b : Int) + s.size:=wi64 _ (by omega) (by omega)
        have hDn : D = none:=by
         rw [← hA.out,List.drop_of_length_le (l:=bl s) (by rw [HU.out];exact hge)]
         exact fd_nil _ _
        have hp:=HP.out
        rw [hDn] at hp
        simp only at hp
        rw [if_pos (by omega)] at hp
        have kf:=fun w=>KF.out ((b : Int) + s.size) w
        generalize failR ⟨s,n,b,e,a⟩ 1 ((b : Int) + s.size) = F at *
        obtain ⟨Fs,Fn,Fb,Fe,Fa⟩:=F
        simp only at kf
        have HP2:=Lib.hid hp
        have KF2:=Lib.hid kf
        clear hp kf
        clear hDn hA hge
        go_wp2_with (go_at_call 47;go_loud (with_reducible refine (KF2.out _).mono ?_);go_loud (rintro e1 w2 ⟨rfl,hb2⟩);go_loud (have hb12:=bt hbel hb2);go_loud (obtain ⟨q0,q0'⟩:=Z0.out.keep hb12);go_loud (obtain ⟨q1,q1'⟩:=Z1.out.keep hb12);go_loud (obtain ⟨q2,q2'⟩:=Z2.out.keep hb12);go_loud (obtain ⟨q3,q3'⟩:=Z3.out.keep hb12);go_loud (obtain ⟨q4,q4'⟩:=Z4.out.keep hb12))
        refine bodyPost_ret (v:=.tuple #[.agg #[.string Fs,.int .i64 Fn,.int .i64 Fb,.int .i64 Fe,.int .i64 Fa],.bool false]) (by simp [results,Tryz.results43,go_sem,q0,q1,q2,q3,q4,q0',q1',q2',q3',q4']) rfl ?_
        exact ⟨by rw [HP2.out],set5 (bt HBW.out hb12) (by simp) _ _ _ _ _⟩
      · have dg : ¬ (n : Int) + (j : Int) ≥ (s.size : Int):=by omega
        obtain ⟨p,hp⟩:=at_some (bl t) j (by rw [HL.out];exact hlt)
        obtain ⟨q,hq⟩:=at_some (bl s) (n + j) (by rw [HU.out];omega)
        have X : ∀ h,t[j]'h = p:=atB_of t j p hp
        have Y : ∀ h,s[n + j]'h = q:=atB_of s (n + j) q hq
        have hA2:=hA.out
        obtain ⟨x1,x2⟩:=List.getElem?_eq_some_iff.1 hp
        obtain ⟨y1,y2⟩:=List.getElem?_eq_some_iff.1 hq
        rw [List.drop_eq_getElem_cons x1,List.drop_eq_getElem_cons y1,x2,y2,firstDiff] at hA2
        have hpl:=p.toNat_lt
        have hql:=q.toNat_lt
        have m0 : (0 : Int) ≤ (j : Int):=by omega
        have m1 : (j : Int) < (t.size : Int):=by omega
        have m2 : (0 : Int) ≤ (n : Int) + (j : Int):=by omega
        have m3 : (n : Int) + (j : Int) < (s.size : Int):=by omega
        have m4 : ((n : Int) + (j : Int)).toNat = n + j:=by omega
        clear hp hq x1 x2 y1 y2 hge hA
        by_cases hpq : p = q
        · subst hpq
          rw [if_pos rfl] at hA2
          have b0 : ((p.toNat : Int) != (p.toNat : Int)) = false:=by simp
          have HA2:=Lib.hid hA2
          clear hA2
          go_wp2_with fail
          go_quiet (fail)
          go_wp2_with fail
          exact ⟨⟨j + 1,by go_num,by omega,by omega,HA2,bdn hbel _⟩,by simp [intOf];omega⟩
        · rw [if_neg hpq] at hA2
          have b0 : ((q.toNat : Int) != (p.toNat : Int)) = true:=by
           rw [bne_iff_ne];intro h;exact hpq (UInt8.toNat_inj.1 (by omega))
          have hw1 : IntKind.i64.wrap ((b : Int) + n) = (b : Int) + n:=wi64 _ (by omega) (by omega)
          have hw2 : IntKind.i64.wrap ((b : Int) + n + j) = (b : Int) + n + j:=wi64 _ (by omega) (by omega)
          have hp:=HP.out
          rw [← hA2] at hp
          simp only at hp
          have kf:=fun w=>KF.out ((b : Int) + n + j) w
          generalize failR ⟨s,n,b,e,a⟩ 1 ((b : Int) + n + j) = F at *
          obtain ⟨Fs,Fn,Fb,Fe,Fa⟩:=F
          simp only at kf
          have HP2:=Lib.hid hp
          have KF2:=Lib.hid kf
          clear hp kf
          clear hA2 hpq
          go_wp2_with fail
          go_quiet (fail)
          have hbd:=bdn hbel nq
          go_wp2_with (go_at_call 47;go_loud (with_reducible refine (KF2.out _).mono ?_);go_loud (rintro e1 w2 ⟨rfl,hb2⟩);go_loud (have hb12:=bt hbd hb2);go_loud (obtain ⟨q0,q0'⟩:=Z0.out.keep hb12);go_loud (obtain ⟨q1,q1'⟩:=Z1.out.keep hb12);go_loud (obtain ⟨q2,q2'⟩:=Z2.out.keep hb12);go_loud (obtain ⟨q3,q3'⟩:=Z3.out.keep hb12);go_loud (obtain ⟨q4,q4'⟩:=Z4.out.keep hb12))
          refine bodyPost_ret (v:=.tuple #[.agg #[.string Fs,.int .i64 Fn,.int .i64 Fb,.int .i64 Fe,.int .i64 Fa],.bool false]) (by simp [results,Tryz.results43,go_sem,q0,q1,q2,q3,q4,q0',q1',q2',q3',q4']) rfl ?_
          exact ⟨by rw [HP2.out],set5 (bt HBW.out hb12) (by simp) _ _ _ _ _⟩
    · have hjt : j = t.size:=by omega
      have hDn : D = none:=by
       rw [← hA.out,List.drop_of_length_le (l:=bl t) (by rw [HL.out];omega)]
       exact fd_nil' _ _
      have hp:=HP.out
      rw [hDn] at hp
      simp only at hp
      rw [if_neg (by omega)] at hp
      have hw : IntKind.i64.wrap ((n : Int) + t.size) = (n : Int) + t.size:=wi64 _ (by omega) (by omega)
      have HP2:=Lib.hid hp
      clear hp
      clear hDn hA hjt wn
      obtain ⟨q0,q0'⟩:=Z0.out.keep hbel
      obtain ⟨q1,q1'⟩:=Z1.out.keep hbel
      obtain ⟨q2,q2'⟩:=Z2.out.keep hbel
      obtain ⟨q3,q3'⟩:=Z3.out.keep hbel
      obtain ⟨q4,q4'⟩:=Z4.out.keep hbel
      go_wp2_with fail
      refine bodyPost_ret (v:=.tuple #[.agg #[.string s,.int .i64 ((n : Int) + t.size),.int .i64 b,.int .i64 e,.int .i64 a],.bool true]) (by simp [results,Tryz.results43,go_sem,q0,q1,q2,q3,q4,q0',q1',q2',q3',q4']) rfl ?_
      exact ⟨by rw [HP2.out];simp,set5 ((bt HBW.out hbel).setCell (by simp) _) (by simp) _ _ _ _ _⟩
 · have d3 : (e != 0) = true:=by rw [bne_iff_ne];exact he
   rw [if_pos he] at hP
   have HP:=Lib.hid hP
   clear hP
   clear he
   go_enter Tryz.func43,Tryz.ntmps43
   go_wp2_with fail
   have lf : ∀ (i : Nat) (u : Value),(#[.string s,.int .i64 n,.int .i64 b,.int .i64 e,.int .i64 a] : Array Value)[i]? = some u → Live ((w.alloc (.cells #[.string s,.int .i64 n,.int .i64 b,.int .i64 e,.int .i64 a] 109)).alloc (.cells #[.string s,.int .i64 n,.int .i64 b,.int .i64 e,.int .i64 a] 109)) (w.heap.size + 1) i u:=by intro i u hu;rw [← World.size_alloc w (.cells #[.string s,.int .i64 n,.int .i64 b,.int .i64 e,.int .i64 a] 109)];exact Live.fresh _ _ _ i u hu
   obtain ⟨q0,q0'⟩:=lf 0 _ rfl
   obtain ⟨q1,q1'⟩:=lf 1 _ rfl
   obtain ⟨q2,q2'⟩:=lf 2 _ rfl
   obtain ⟨q3,q3'⟩:=lf 3 _ rfl
   obtain ⟨q4,q4'⟩:=lf 4 _ rfl
   refine bodyPost_ret (v:=.tuple #[.agg #[.string s,.int .i64 n,.int .i64 b,.int .i64 e,.int .i64 a],.bool false]) (by simp [results,Tryz.results43,go_sem,q0,q1,q2,q3,q4,q0',q1',q2',q3',q4']) rfl ?_
   exact ⟨by rw [HP.out],bal (bal (Below.refl _ _) _) _⟩
end Go.Proofs.YtmfjmgjhfplijaaGreatDoor
