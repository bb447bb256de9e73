/- Gb -/
import Derived.Test.YtmfjmgjhfplijaaGreatDoorMGa
import Derived.Test.YtmfjmgjhfplijaaGreatDoorMZB
set_option linter.unusedVariables false
set_option linter.unusedSimpArgs false
set_option maxHeartbeats 4000000
namespace Go.Proofs.YtmfjmgjhfplijaaGreatDoor
open Go.RowKit
theorem r19num_any (x : RS) (w : World) (hk : okR x) : Calls Tryz.prog 96 #[inV x] w fun e w'=>e = .returned (.tuple #[inV (numR x).1,.int .i64 (numR x).2]) ∧ Below w.heap.size w w':=by
 have k1:=fun w=>rtake_any x 4 w hk (by omega) (by omega)
 have hsz : (takeR x 4).2.size ≤ 4:=takeR_size x 4
 have k2:=fun w=>rback_any (takeR x 4).2 w (by omega)
 have k3:=fun w=>rnumber_any (revB (takeR x 4).2) w (by show (bl _).reverse.length ≤ 7;rw [List.length_reverse,bl_length];omega)
 rw [show bl (revB (takeR x 4).2) = (bl (takeR x 4).2).reverse from rfl,beN_rev] at k3
 have hlt:=leN_lt (bl (takeR x 4).2)
 have hlt2 : leN (bl (takeR x 4).2) < 4294967296:=by
  refine Nat.lt_of_lt_of_le hlt ?_
  rw [bl_length]
  exact Nat.le_trans (Nat.pow_le_pow_right (by decide) hsz) (by decide)
 unfold numR
 simp only
 generalize leN (bl (takeR x 4).2) = N at *
 generalize revB (takeR x 4).2 = RV at *
 generalize takeR x 4 = y at *
 obtain ⟨⟨ys,yn,yb,ye,ya⟩,t⟩:=y
 obtain ⟨xs,xn,xb,xe,xa⟩:=x
 unfold inV at k1 ⊢
 simp only at k1 k2 ⊢
 have hw : IntKind.i64.wrap (N : Int) = N:=wi64 _ (by omega) (by omega)
 obtain ⟨W,hW⟩ : ∃ W,W = (w.alloc (.cells #[.string xs,.int .i64 xn,.int .i64 xb,.int .i64 xe,.int .i64 xa] 109)).alloc (.cells #[.string ⟨#[]⟩,.int .i64 0,.int .i64 0,.int .i64 0,.int .i64 0] 109):=⟨_,rfl⟩
 have hz1 : (w.alloc (.cells #[.string xs,.int .i64 xn,.int .i64 xb,.int .i64 xe,.int .i64 xa] 109)).heap.size = w.heap.size + 1:=by simp only [World.size_alloc]
 have hbW : Below w.heap.size w W:=by rw [hW];exact bal (bal (Below.refl _ _) _) _
 have hWs : W.heap.size = w.heap.size + 1 + 1:=by rw [hW];simp only [World.size_alloc]
 have hB0 : W.heap[w.heap.size]? = some (.cells #[.string xs,.int .i64 xn,.int .i64 xb,.int .i64 xe,.int .i64 xa] 109 (0,0)):=by rw [hW];exact (heap_alloc_old _ _ (by simp only [World.size_alloc];omega)).trans (heap_alloc_new w _)
 have hB1 : W.heap[w.heap.size + 1]? = some (.cells #[.string ⟨#[]⟩,.int .i64 0,.int .i64 0,.int .i64 0,.int .i64 0] 109 (0,0)):=by rw [hW,← hz1];exact heap_alloc_new (w.alloc (.cells #[.string xs,.int .i64 xn,.int .i64 xb,.int .i64 xe,.int .i64 xa] 109)) _
 clear hz1
 obtain ⟨c0,_⟩:=live_of hB0 0 _ rfl
 obtain ⟨c1,_⟩:=live_of hB0 1 _ rfl
 obtain ⟨c2,_⟩:=live_of hB0 2 _ rfl
 obtain ⟨c3,_⟩:=live_of hB0 3 _ rfl
 obtain ⟨c4,_⟩:=live_of hB0 4 _ rfl
 have K1:=Lib.hid k1
 have K2:=Lib.hid k2
 have K3:=Lib.hid k3
 have HBW:=Lib.hid hbW
 have HB1:=Lib.hid hB1
 have HWS:=Lib.hid hWs
 clear k1 k2 k3 hbW hB1 hWs
 clear hlt hlt2 hsz hB0 hk
 go_enter Tryz.func96,Tryz.ntmps96
 go_wp2_with fail
 rw [← hW]
 clear hW
 go_wp2_with (go_at_call 44;go_loud (with_reducible refine (K1.out _).mono ?_);go_loud (rintro e1 w1 ⟨rfl,hb1⟩))
 obtain ⟨W2,h2⟩ : ∃ W2,W2 = w1.alloc (.cells #[.string ys,.int .i64 yn,.int .i64 yb,.int .i64 ye,.int .i64 ya] 109):=⟨_,rfl⟩
 have hb2 : Below W.heap.size W W2:=by rw [h2];exact bal hb1 _
 have fl : ∀ (i : Nat) (u : Value),(#[.string ys,.int .i64 yn,.int .i64 yb,.int .i64 ye,.int .i64 ya] : Array Value)[i]? = some u → W2.cell? ⟨w1.heap.size,i,none⟩ = some u:=by
  intro i u hu;rw [h2];exact (Live.fresh w1 _ 109 i u hu).1
 have f0:=fl 0 _ rfl
 have f1:=fl 1 _ rfl
 have f2:=fl 2 _ rfl
 have f3:=fl 3 _ rfl
 have f4:=fl 4 _ rfl
 rw [← h2]
 clear h2 fl
 have hr:=(hb2.block (w.heap.size + 1) (by have:=HWS.out;omega)).trans HB1.out
 obtain ⟨q0,q0'⟩:=live_of hr 0 _ rfl
 obtain ⟨q1,q1'⟩:=live_of hr 1 _ rfl
 obtain ⟨q2,q2'⟩:=live_of hr 2 _ rfl
 obtain ⟨q3,q3'⟩:=live_of hr 3 _ rfl
 obtain ⟨q4,q4'⟩:=live_of hr 4 _ rfl
 clear hr
 go_region_with (first
  | (go_at_call 137;go_loud (refine (K2.out _).mono ?_);go_loud (rintro e2 w3 ⟨rfl,rfl⟩))
  | (go_at_call 45;go_loud (refine (K3.out _).mono ?_);go_loud (rintro e2 w3 ⟨rfl,rfl⟩)))
 all_goals
  go_wp2_with fail
  refine bodyPost_ret (v:=.tuple #[.agg #[.string ys,.int .i64 yn,.int .i64 yb,.int .i64 ye,.int .i64 ya],.int .i64 N]) (by simp [results,Tryz.results96,go_sem,q0,q1,q2,q3,q4,q0',q1',q2',q3',q4']) rfl ?_
  exact ⟨rfl,(set5 (bt HBW.out hb2) (by simp) _ _ _ _ _).drew⟩
theorem leaf9_form (R : List UInt8 → Int) (x : RS) (b : ByteArray) (at_ : Int) : ∃ (u : ByteArray) (e a : Int),dec9V (R (bl b)) (bl b) = .tuple #[.string u,.int .i64 e,.int .i64 a] ∧ 0 ≤ a ∧ a ≤ b.size ∧
 ((e = 0 ∧ leafR R x b at_ = (x,u,R (bl b))) ∨ (e ≠ 0 ∧ leafR R x b at_ = (failR x e (at_ + a),⟨#[]⟩,0))):=by
 unfold dec9V leafR
 by_cases h : 0 ≤ R (bl b) ∧ R (bl b) ≤ 9
 · rw [if_pos h,if_pos h]
   rcases hd : decT (tokC (R (bl b))) (bl b) with ⟨u,o⟩
   cases o with
   | none=>exact ⟨⟨u.toArray⟩,0,0,rfl,by omega,by omega,.inl ⟨rfl,rfl⟩⟩
   | some k=>
    have:=runT_leS (short_C (R (bl b))) _ _ _ _ _ _ hd
    rw [bl_length] at this
    exact ⟨⟨u.toArray⟩,2,k,rfl,by omega,by omega,.inr ⟨by decide,rfl⟩⟩
 · rw [if_neg h,if_neg h]
   exact ⟨⟨#[]⟩,5,0,rfl,by omega,by omega,.inr ⟨by decide,by rw [Int.add_zero]⟩⟩
noncomputable def textR (R : List UInt8 → Int) (x : RS) (t : ByteArray) (a : Int) : RS × ByteArray × Int:=if x.e ≠ 0 then (x,⟨#[]⟩,0) else leafR R x t a
def TextPost (p : RS × ByteArray × Int) (w : World) (e : Ending) (w' : World) : Prop:=e = .returned (.tuple #[inV p.1,.string p.2.1,.int .i64 p.2.2]) ∧ Below w.heap.size w w'
set_option maxRecDepth 100000 in
theorem r19text_any (x : RS) (t : ByteArray) (a fb : Int) (g : Bool) (w : World) (ht : t.size ≤ 1048576) (ha0 : 0 ≤ a) (ha1 : a ≤ 1152921504606846976) :
 Calls Tryz.prog 97 #[inV x,.string t,.int .i64 a,.int .i64 fb,.bool g] w (TextPost (textR (RM fb g) x t a) w):=by
 have k1:=fun w=>resolve10_any t ⟨#[]⟩ fb g w ht (by decide)
 have k2:=fun w=>dec9_any (RM fb g (bl t)) t w ht
 rw [show resM (bl t) (bl ⟨#[]⟩) fb g = RM fb g (bl t) from rfl] at k1
 unfold D9Post at k2
 obtain ⟨u,e,p,hd,a0,a1,hl⟩:=leaf9_form (RM fb g) x t a
 rw [hd] at k2
 have kf:=fun w=>rfail_any x e (a + p) w
 have hwp : IntKind.i64.wrap (a + p) = a + p:=wi64 _ (by omega) (by omega)
 unfold TextPost textR
 generalize RM fb g (bl t) = c at *
 generalize leafR (RM fb g) x t a = LR at *
 generalize failR x e (a + p) = F at *
 obtain ⟨xs,xn,xb,xe,xa⟩:=x
 obtain ⟨Fs,Fn,Fb,Fe,Fa⟩:=F
 unfold inV at kf
 simp only at kf hl ⊢
 rw [show inV ⟨xs,xn,xb,xe,xa⟩ = .agg #[.string xs,.int .i64 xn,.int .i64 xb,.int .i64 xe,.int .i64 xa] from rfl]
 obtain ⟨W,hW⟩ : ∃ W,W = (w.alloc (.cells #[.string xs,.int .i64 xn,.int .i64 xb,.int .i64 xe,.int .i64 xa] 109)).alloc (.cells #[.string ⟨#[]⟩,.int .i64 0,.int .i64 0,.int .i64 0,.int .i64 0] 109):=⟨_,rfl⟩
 have hz1 : (w.alloc (.cells #[.string xs,.int .i64 xn,.int .i64 xb,.int .i64 xe,.int .i64 xa] 109)).heap.size = w.heap.size + 1:=by simp only [World.size_alloc]
 have hbW : Below w.heap.size w W:=by rw [hW];exact bal (bal (Below.refl _ _) _) _
 have hWs : W.heap.size = w.heap.size + 1 + 1:=by rw [hW];simp only [World.size_alloc]
 have hB0 : W.heap[w.heap.size]? = some (.cells #[.string xs,.int .i64 xn,.int .i64 xb,.int .i64 xe,.int .i64 xa] 109 (0,0)):=by rw [hW];exact (heap_alloc_old _ _ (by simp only [World.size_alloc];omega)).trans (heap_alloc_new w _)
 have hB1 : W.heap[w.heap.size + 1]? = some (.cells #[.string ⟨#[]⟩,.int .i64 0,.int .i64 0,.int .i64 0,.int .i64 0] 109 (0,0)):=by rw [hW,← hz1];exact heap_alloc_new (w.alloc (.cells #[.string xs,.int .i64 xn,.int .i64 xb,.int .i64 xe,.int .i64 xa] 109)) _
 clear hz1
 obtain ⟨c0,c0'⟩:=live_of hB0 0 _ rfl
 obtain ⟨c1,c1'⟩:=live_of hB0 1 _ rfl
 obtain ⟨c2,c2'⟩:=live_of hB0 2 _ rfl
 obtain ⟨c3,c3'⟩:=live_of hB0 3 _ rfl
 obtain ⟨c4,c4'⟩:=live_of hB0 4 _ rfl
 have K1:=Lib.hid k1
 have K2:=Lib.hid k2
 have KF:=Lib.hid kf
 have HBW:=Lib.hid hbW
 have HB1:=Lib.hid hB1
 have HWS:=Lib.hid hWs
 clear k1 k2 kf hbW hB1 hWs
 clear hB0 hd
 by_cases he : xe = 0
 · have d3 : (xe != 0) = false:=by rw [bne_eq_false_iff_eq];exact he
   rw [if_neg (by simpa using he)]
   clear he
   rcases hl with ⟨rfl,rfl⟩ | ⟨he2,rfl⟩
   · simp only
     go_enter Tryz.func97,Tryz.ntmps97
     go_wp2_with fail
     rw [← hW]
     clear hW
     go_wp2_with (first
      | (go_at_call 138;go_loud (with_reducible refine (K1.out _).mono ?_);go_loud (rintro e1 w1 ⟨rfl,hb1⟩))
      | (go_at_call 139;go_loud (with_reducible refine (K2.out _).mono ?_);go_loud (rintro e2 w2 ⟨rfl,hb2⟩);go_loud (have hbx:=bt hb1 hb2);go_loud (have hr:=(hbx.block (w.heap.size + 1) (by have:=HWS.out;omega)).trans HB1.out);go_loud (obtain ⟨q0,q0'⟩:=live_of hr 0 _ rfl);go_loud (obtain ⟨q1,q1'⟩:=live_of hr 1 _ rfl);go_loud (obtain ⟨q2,q2'⟩:=live_of hr 2 _ rfl);go_loud (obtain ⟨q3,q3'⟩:=live_of hr 3 _ rfl);go_loud (obtain ⟨q4,q4'⟩:=live_of hr 4 _ rfl);go_loud (have c0:=kc hbx c0);go_loud (have c1:=kc hbx c1);go_loud (have c2:=kc hbx c2);go_loud (have c3:=kc hbx c3);go_loud (have c4:=kc hbx c4)))
     refine bodyPost_ret (v:=.tuple #[.agg #[.string xs,.int .i64 xn,.int .i64 xb,.int .i64 xe,.int .i64 xa],.string u,.int .i64 c]) (by simp [results,Tryz.results97,go_sem,q0,q1,q2,q3,q4,q0',q1',q2',q3',q4']) rfl ?_
     exact ⟨rfl,set5 (bt HBW.out hbx) (by simp) _ _ _ _ _⟩
   · have d4 : (e != 0) = true:=by rw [bne_iff_ne];exact he2
     simp only
     clear he2
     go_enter Tryz.func97,Tryz.ntmps97
     go_wp2_with fail
     rw [← hW]
     clear hW
     go_wp2_with (first
      | (go_at_call 138;go_loud (with_reducible refine (K1.out _).mono ?_);go_loud (rintro e1 w1 ⟨rfl,hb1⟩))
      | (go_at_call 139;go_loud (with_reducible refine (K2.out _).mono ?_);go_loud (rintro e2 w2 ⟨rfl,hb2⟩);go_loud (have hbx:=bt hb1 hb2);go_loud (have c0:=kc hbx c0);go_loud (have c1:=kc hbx c1);go_loud (have c2:=kc hbx c2);go_loud (have c3:=kc hbx c3);go_loud (have c4:=kc hbx c4))
      | (go_at_call 47;go_loud (with_reducible refine (KF.out _).mono ?_);go_loud (rintro e3 w3 ⟨rfl,hb3⟩);go_loud (have hby:=bt hbx hb3);go_loud (have hr:=(hby.block (w.heap.size + 1) (by have:=HWS.out;omega)).trans HB1.out);go_loud (obtain ⟨q0,q0'⟩:=live_of hr 0 _ rfl);go_loud (obtain ⟨q1,q1'⟩:=live_of hr 1 _ rfl);go_loud (obtain ⟨q2,q2'⟩:=live_of hr 2 _ rfl);go_loud (obtain ⟨q3,q3'⟩:=live_of hr 3 _ rfl);go_loud (obtain ⟨q4,q4'⟩:=live_of hr 4 _ rfl)))
     refine bodyPost_ret (v:=.tuple #[.agg #[.string Fs,.int .i64 Fn,.int .i64 Fb,.int .i64 Fe,.int .i64 Fa],.string ⟨#[]⟩,.int .i64 0]) (by simp [results,Tryz.results97,go_sem,q0,q1,q2,q3,q4,q0',q1',q2',q3',q4']) rfl ?_
     exact ⟨rfl,set5 (bt HBW.out hby) (by simp) _ _ _ _ _⟩
 · have d3 : (xe != 0) = true:=by rw [bne_iff_ne];exact he
   rw [if_pos he]
   simp only
   clear he hl
   go_enter Tryz.func97,Tryz.ntmps97
   go_wp2_with fail
   have lf : ∀ (i : Nat) (u : Value),(#[.string xs,.int .i64 xn,.int .i64 xb,.int .i64 xe,.int .i64 xa] : Array Value)[i]? = some u → Live ((w.alloc (.cells #[.string xs,.int .i64 xn,.int .i64 xb,.int .i64 xe,.int .i64 xa] 109)).alloc (.cells #[.string xs,.int .i64 xn,.int .i64 xb,.int .i64 xe,.int .i64 xa] 109)) (w.heap.size + 1) i u:=by intro i u hu;rw [← World.size_alloc w (.cells #[.string xs,.int .i64 xn,.int .i64 xb,.int .i64 xe,.int .i64 xa] 109)];exact Live.fresh _ _ _ i u hu
   obtain ⟨q0,q0'⟩:=lf 0 _ rfl
   obtain ⟨q1,q1'⟩:=lf 1 _ rfl
   obtain ⟨q2,q2'⟩:=lf 2 _ rfl
   obtain ⟨q3,q3'⟩:=lf 3 _ rfl
   obtain ⟨q4,q4'⟩:=lf 4 _ rfl
   refine bodyPost_ret (v:=.tuple #[.agg #[.string xs,.int .i64 xn,.int .i64 xb,.int .i64 xe,.int .i64 xa],.string ⟨#[]⟩,.int .i64 0]) (by simp [results,Tryz.results97,go_sem,q0,q1,q2,q3,q4,q0',q1',q2',q3',q4']) rfl ?_
   exact ⟨rfl,bal (bal (Below.refl _ _) _) _⟩
theorem ahead_stop : ∀ (l : List UInt8) (j : Nat) (c : UInt8),(l.take j).all letter8 = true → l[j]? = some c → letter8 c = false → aheadM l = j:=by
 unfold aheadM
 intro l
 induction l with
 | nil=>intro j c _ h;simp at h
 | cons a l ih=>
  intro j c h1 h2 h3
  cases j with
  | zero=>
   simp at h2
   subst h2
   rw [List.takeWhile_cons,h3]
   rfl
  | succ j=>
   rw [List.take_succ_cons,List.all_cons,Bool.and_eq_true] at h1
   rw [List.takeWhile_cons,h1.1,if_pos rfl,List.length_cons,ih j c h1.2 (by simpa using h2) h3]
end Go.Proofs.YtmfjmgjhfplijaaGreatDoor
