/- Cw -/
import Derived.Deep.DrawnRows
import Derived.Test.YtnbglcaeekppjaaGreatDoorMOx
import Derived.Test.YtnbglcaeekppjaaGreatDoorMTv
set_option linter.unusedVariables false
set_option linter.unusedSimpArgs false
set_option maxHeartbeats 4000000
namespace Go.Proofs.YtnbglcaeekppjaaGreatDoor
open Go.RowKit
theorem le_step (l : List UInt8) (k : Nat) (x : UInt8) (h : l[k]? = some x) : leN (l.drop k) = x.toNat + 256 * leN (l.drop (k + 1)):=by
 obtain ⟨h1,h2⟩:=List.getElem?_eq_some_iff.1 h
 rw [List.drop_eq_getElem_cons h1,h2]
 rfl
theorem takeR_size (x : RS) (k : Nat) : (takeR x k).2.size ≤ k:=by
 unfold takeR
 split
 · exact Nat.zero_le _
 · split
   · exact Nat.zero_le _
   · show (x.s.extract _ _).size ≤ _
     rw [ByteArray.size_extract];omega
theorem wrapsu64 (n : Int) (h₀ : 0 ≤ n) (h₁ : n < 2 ^ 64) : IntKind.u64.wrap n = n:=by rw [IntKind.wrap_u64];omega
theorem u64_or8 (x y : Int) (hx₀ : 0 ≤ x) (hx : x % 256 = 0) (hx₁ : x < 9223372036854775808) (hy₀ : 0 ≤ y) (hy : y < 256) (hy₁ : y < 9223372036854775808) : bits .or .u64 x y = x + y:=
 bits_join .u64 64 (by decide) wrapsu64 8 x y hx₀ hx (by omega) hy₀ hy (by omega)
theorem inx_small (w : World) (r : Nat) (x : RS) (h : InX w r x) (hk : okR x) :
 Calls Tryz.prog 83 #[.pointer (some ⟨r,0,none⟩),.int .i64 4] w fun v w'=>v = .returned (.int .u64 ((numR x).2 : Int)) ∧ InX w' r (numR x).1 ∧ w.grownBy w' (some r):=by
 have k1 : ∀ w,Calls Tryz.prog 107 #[.int .i64 4] w fun e w'=>e = .returned (.int .i64 4) ∧ w = w':=fun w=>width_any 4 w
 have k2:=fun w h=>inx_take w r x 4 h hk (by decide) (by decide)
 have hsz : (takeR x 4).2.size ≤ 4:=takeR_size x 4
 unfold numR
 generalize takeR x 4 = y at *
 obtain ⟨y,t⟩:=y
 simp only at k2 hsz ⊢
 have HL : Hid ((bl t).length = t.size):=bl_length t
 have K1:=Lib.hid k1
 have K2:=Lib.hid k2
 clear k1 k2
 go_enter Tryz.func83,Tryz.ntmps83
 go_wp2_with (first
  | (go_at_call 107;refine (K1.out _).mono ?_;rintro x w1 ⟨rfl,rfl⟩)
  | (go_at_call 89;refine (K2.out _ h).mono ?_;rintro x w2 ⟨rfl,hi,hg⟩))
 go_loop [6,7] (fun n i=>∃ k : Nat,i = .int .i64 ((k : Int) - 1) ∧ n = .int .u64 (leN ((bl t).drop k) : Int) ∧ k ≤ t.size) (fun _ i=>(intOf i + 1).toNat)
 case atStart=>exact ⟨t.size,rfl,by rw [List.drop_of_length_le (by rw [HL.out];exact Nat.le_refl _)];rfl,Nat.le_refl _⟩
 case round=>
  obtain ⟨k,rfl,rfl,hkt⟩:=hrel
  cases k with
  | zero=>
   have e0 : ((0 : Nat) : Int) - 1 = -1:=by omega
   rw [List.drop_zero]
   go_wp2
   go_ret
   exact ⟨rfl,hi,hg⟩
  | succ j=>
   obtain ⟨c,hc⟩:=at_some (bl t) j (by rw [HL.out];omega)
   have C : ∀ h,t[j]'h = c:=atB_of t j c hc
   have hst:=le_step (bl t) j c hc
   have hb:=leN_lt ((bl t).drop (j + 1))
   have hcl:=c.toNat_lt
   have hb2 : leN ((bl t).drop (j + 1)) < 16777216:=by
    refine Nat.lt_of_lt_of_le hb ?_
    have : ((bl t).drop (j + 1)).length ≤ 3:=by rw [List.length_drop,HL.out];omega
    exact Nat.le_trans (Nat.pow_le_pow_right (by decide) this) (by decide)
   clear hb hc
   generalize leN ((bl t).drop (j + 1)) = q at *
   have ej : (((j + 1 : Nat) : Int) - 1) = (j : Int):=by omega
   rw [ej]
   have HST:=Lib.hid hst
   clear hst
   have hor : bits .or .u64 ((q : Int) * 256) (c.toNat : Int) = (q : Int) * 256 + c.toNat:=u64_or8 _ _ (by omega) (by omega) (by omega) (by omega) (by omega) (by omega)
   go_wp2_with fail
   exact ⟨⟨j,rfl,by rw [HST.out];congr 1;omega,by omega⟩,by simp [intOf]⟩
noncomputable def RM (fb : Int) (g : Bool) : List UInt8 → Int:=fun l=>resM l [] fb g
theorem RM_utf (fb : Int) (g : Bool) (l : List UInt8) (h : (scanL l).2 = none) : RM fb g l = 7:=by
 unfold RM resM
 rw [h]
 rfl
theorem numR_lt (x : RS) : (numR x).2 < 4294967296:=by
 unfold numR
 refine Nat.lt_of_lt_of_le (leN_lt _) ?_
 have : (bl (takeR x 4).2).length ≤ 4:=by rw [bl_length];exact takeR_size x 4
 exact Nat.le_trans (Nat.pow_le_pow_right (by decide) this) (by decide)
theorem csized_any (w : World) (r : Nat) (x : RS) (kd fb bu : Int) (g : Bool) (h : InX w r x) (hk : okR x) :
 Calls Tryz.prog 81 #[.agg #[.pointer (some ⟨r,0,none⟩),.int .i64 kd,.int .i64 fb,.bool g,.int .i64 bu]] w
  fun v w'=>v = .returned (.tuple #[.string (sizedR x).2.1,.int .i64 (sizedR x).2.2]) ∧ InX w' r (sizedR x).1 ∧ w.grownBy w' (some r):=by
 have k1:=fun w h=>inx_small w r x h hk
 have hk1:=okR_num hk
 have k2:=fun w h=>inx_at w r (numR x).1 h hk1
 have hn:=numR_lt x
 have k3:=fun w h=>inx_take w r (numR x).1 ((numR x).2 : Int) h hk1 (by omega) (by omega)
 unfold sizedR
 generalize numR x = y at *
 obtain ⟨y,n⟩:=y
 simp only at k1 k2 k3 hn ⊢
 generalize takeR y n = z at *
 obtain ⟨z,t⟩:=z
 simp only at k3 ⊢
 have hrl:=h.lt
 have l0:=Live.fresh w #[.pointer (some ⟨r,0,none⟩),.int .i64 kd,.int .i64 fb,.bool g,.int .i64 bu] 129 0 _ rfl
 have hbA:=bal (Below.refl w.heap.size w) (.cells #[.pointer (some ⟨r,0,none⟩),.int .i64 kd,.int .i64 fb,.bool g,.int .i64 bu] 129)
 have hwn : IntKind.i64.wrap (n : Int) = n:=wi64 _ (by omega) (by omega)
 have hA:=h.bel hbA
 have K1:=Lib.hid k1
 have K2:=Lib.hid k2
 have K3:=Lib.hid k3
 have HBA:=Lib.hid hbA
 have L0:=Lib.hid l0
 have HA:=Lib.hid hA
 clear k1 k2 k3 hbA l0 hA
 clear hk hk1
 go_enter Tryz.func81,Tryz.ntmps81
 go_wp2_with (first
  | (go_at_call 83;refine (K1.out _ HA.out).mono ?_;rintro e w1 ⟨rfl,hi1,hg1⟩;have c0:=hg1.cell L0.out.1 (by simp;omega))
  | (go_at_call 50;refine (K2.out _ hi1).mono ?_;rintro e w2 ⟨rfl,hb2⟩;have c0':=kc hb2 c0)
  | (go_at_call 89;refine (K3.out _ (hi1.bel hb2)).mono ?_;rintro e w3 ⟨rfl,hi3,hg3⟩))
 go_ret2
 exact ⟨rfl,hi3,gr_trans (gr_trans (gr_trans (gr_below HBA.out) hg1) (gr_below hb2)) hg3⟩
theorem runT_leS {tok : Tok} (S : Short tok) : ∀ (f : Nat) (l : List UInt8) (n : Nat) (acc u : List UInt8) (q : Nat),runT tok f l n acc = (u,some q) → q ≤ n + l.length:=by
 intro f
 induction f with
 | zero=>intro l n acc u q h;simp [runT] at h
 | succ f ih=>
  intro l n acc u q h
  by_cases hl : l = []
  · subst hl;simp [runT] at h
  · cases ht : tok l with
    | none=>
     rw [runT_none f l n acc hl ht] at h
     simp only [Prod.mk.injEq,Option.some.injEq] at h
     omega
    | some p=>
     obtain ⟨t,k⟩:=p
     have:=(S l t k ht).2
     rw [runT_some f l n acc t k hl ht] at h
     have:=ih _ _ _ _ _ h
     rw [List.length_drop] at this
     omega
theorem leaf_form (R : List UInt8 → Int) (x : RS) (b : ByteArray) (at_ : Int) : ∃ (u : ByteArray) (e a : Int),decV (R (bl b)) (bl b) = .tuple #[.string u,.agg #[.int .i64 e,.int .i64 a]] ∧ 0 ≤ a ∧ a ≤ b.size ∧
 ((e = 0 ∧ leafR R x b at_ = (x,u,R (bl b))) ∨ (e ≠ 0 ∧ leafR R x b at_ = (failR x e (at_ + a),⟨#[]⟩,0))):=by
 unfold decV leafR
 by_cases h : 0 ≤ R (bl b) ∧ R (bl b) ≤ 9
 · rw [if_pos h,if_pos h]
   rcases hd : decT (tokC (R (bl b))) (bl b) with ⟨u,o⟩
   cases o with
   | none=>exact ⟨⟨u.toArray⟩,0,0,rfl,by omega,by omega,.inl ⟨rfl,rfl⟩⟩
   | some k=>
    have:=runT_leS (short_C (R (bl b))) _ _ _ _ _ _ hd
    rw [bl_length] at this
    exact ⟨⟨u.toArray⟩,2,k,rfl,by omega,by omega,.inr ⟨by decide,rfl⟩⟩
 · rw [if_neg h,if_neg h]
   exact ⟨⟨#[]⟩,5,0,rfl,by omega,by omega,.inr ⟨by decide,by rw [Int.add_zero]⟩⟩
set_option maxRecDepth 100000 in
theorem cleaf_any (w : World) (r : Nat) (x : RS) (kd fb bu : Int) (g : Bool) (b : ByteArray) (at_ : Int) (hT : TW w) (hr : 4 ≤ r) (h : InX w r x) (hb : b.size ≤ 1048576) (ha0 : 0 ≤ at_) (ha1 : at_ ≤ 1152921504606846976) :
 Calls Tryz.prog 82 #[.agg #[.pointer (some ⟨r,0,none⟩),.int .i64 kd,.int .i64 fb,.bool g,.int .i64 bu],.string b,.int .i64 at_] w
  fun v w'=>v = .returned (.agg #[.string (leafR (RM fb g) x b at_).2.1,.int .i64 (leafR (RM fb g) x b at_).2.2]) ∧ InX w' r (leafR (RM fb g) x b at_).1 ∧ w.grownBy w' (some r):=by
 have k1 : ∀ w,TW w → Calls Tryz.prog 105 #[.string b,.string ⟨#[]⟩,.agg #[.int .i64 kd,.int .i64 fb,.bool g,.int .i64 bu]] w fun e w'=>e = .returned (.int .i64 (RM fb g (bl b))) ∧ Below w.heap.size w w':=fun w hT=>resolve_any b ⟨#[]⟩ kd fb bu g w hT hb (by decide)
 have k2:=fun w hT=>cdecode_any (RM fb g (bl b)) b w hT (by omega)
 obtain ⟨u,e,a,hd,a0,a1,hl⟩:=leaf_form (RM fb g) x b at_
 rw [hd] at k2
 unfold CDecPost at k2
 generalize RM fb g (bl b) = c at *
 have k3:=fun w=>bad_any e a w
 have k4:=fun w h=>inx_fail w r x e (at_ + a) h
 have hw : IntKind.i64.wrap (at_ + a) = at_ + a:=wi64 _ (by omega) (by omega)
 have hrl:=h.lt
 obtain ⟨W,hW⟩ : ∃ W,W = (w.alloc (.cells #[.pointer (some ⟨r,0,none⟩),.int .i64 kd,.int .i64 fb,.bool g,.int .i64 bu] 129)).alloc (.cells #[.string ⟨#[]⟩,.int .i64 0] 30):=⟨_,rfl⟩
 have hs1 : (w.alloc (.cells #[.pointer (some ⟨r,0,none⟩),.int .i64 kd,.int .i64 fb,.bool g,.int .i64 bu] 129)).heap.size = w.heap.size + 1:=World.size_alloc _ _
 have lc : ∀ (i : Nat) (v : Value),(#[.pointer (some ⟨r,0,none⟩),.int .i64 kd,.int .i64 fb,.bool g,.int .i64 bu] : Array Value)[i]? = some v → W.cell? ⟨w.heap.size,i,none⟩ = some v:=by
  intro i v hv;rw [hW];exact ((Live.fresh w _ 129 i v hv).alloc _).1
 have l0:=lc 0 _ rfl
 have l1:=lc 1 _ rfl
 have l2:=lc 2 _ rfl
 have l3:=lc 3 _ rfl
 have l4:=lc 4 _ rfl
 have m0 : Live W (w.heap.size + 1) 0 (.string ⟨#[]⟩):=by rw [hW,← hs1];exact Live.fresh _ _ _ 0 _ rfl
 have m1 : Live W (w.heap.size + 1) 1 (.int .i64 0):=by rw [hW,← hs1];exact Live.fresh _ _ _ 1 _ rfl
 have hbW : Below w.heap.size w W:=by rw [hW];exact bal (bal (Below.refl _ _) _) _
 have hTW:=hT.bel hbW
 have hIW:=h.bel hbW
 have K1:=Lib.hid k1
 have K2:=Lib.hid k2
 have K3:=Lib.hid k3
 have K4:=Lib.hid k4
 have HBW:=Lib.hid hbW
 have HTW:=Lib.hid hTW
 have HIW:=Lib.hid hIW
 have M0:=Lib.hid m0
 have M1:=Lib.hid m1
 clear k1 k2 k3 k4 hbW hTW hIW m0 m1
 clear lc hs1 hT hd h
 rcases hl with ⟨rfl,hl⟩ | ⟨he,hl⟩
 · rw [hl]
   go_enter Tryz.func82,Tryz.ntmps82
   go_wp2_with fail
   rw [← hW]
   clear hW
   go_wp2_with (first
    | (go_at_call 105;refine (K1.out _ HTW.out).mono ?_;rintro e w1 ⟨rfl,hb1⟩)
    | (go_at_call 106;refine (K2.out _ (HTW.out.bel hb1)).mono ?_;rintro e w2 ⟨rfl,hb2⟩;have hb12:=bal (bt hb1 hb2) (.cells #[.int .i64 0,.int .i64 a] 54))
    | (go_at_call 18;refine (K3.out _).mono ?_;rintro e w3 ⟨rfl,hb3⟩;have hb13:=bt hb12 hb3;obtain ⟨q0,q0'⟩:=M0.out.keep hb13;obtain ⟨q1,q1'⟩:=M1.out.keep hb13))
   refine bodyPost_ret (v:=.agg #[.string u,.int .i64 c]) (by simp [results,Tryz.results82,go_sem,q0,q1,q0',q1']) rfl ?_
   have hbf:=HBW.out.trans (hb13.mono HBW.out.size)
   refine ⟨rfl,(HIW.out.bel hb13).gr (gr_trans (gr_set _ _ _ _) (gr_set _ _ _ _)) (by simp;omega),gr_below ((hbf.setCell (by simp) _).setCell (by simp) _)⟩
 · rw [hl]
   have hd3 : (!decide (e = 0)) = true:=by simpa using he
   rw [hd3] at K3
   go_enter Tryz.func82,Tryz.ntmps82
   go_wp2_with fail
   rw [← hW]
   clear hW
   go_wp2_with (first
    | (go_at_call 105;refine (K1.out _ HTW.out).mono ?_;rintro e w1 ⟨rfl,hb1⟩)
    | (go_at_call 106;refine (K2.out _ (HTW.out.bel hb1)).mono ?_;rintro e' w2 ⟨rfl,hb2⟩;have hb12:=bal (bt hb1 hb2) (.cells #[.int .i64 e,.int .i64 a] 54))
    | (go_at_call 18;refine (K3.out _).mono ?_;rintro e' w3 ⟨rfl,hb3⟩;have hb13:=bt hb12 hb3;obtain ⟨f0,f0'⟩:=(Live.fresh w2 #[.int .i64 e,.int .i64 a] 54 0 _ rfl).keep hb3;obtain ⟨f1,f1'⟩:=(Live.fresh w2 #[.int .i64 e,.int .i64 a] 54 1 _ rfl).keep hb3;have r0:=kc hb13 l0)
    | (go_at_call 52;refine (K4.out _ (HIW.out.bel hb13)).mono ?_;rintro e' w4 ⟨rfl,hi4,hg4⟩;obtain ⟨q0,q0'⟩:=live_gr (M0.out.keep hb13) hg4 (by simp;omega);obtain ⟨q1,q1'⟩:=live_gr (M1.out.keep hb13) hg4 (by simp;omega)))
   refine bodyPost_ret (v:=.agg #[.string ⟨#[]⟩,.int .i64 0]) (by simp [results,Tryz.results82,go_sem,q0,q1,q0',q1']) rfl ?_
   have hbf:=HBW.out.trans (hb13.mono HBW.out.size)
   have hg:=gr_trans (gr_below hbf) hg4
   have hz:=hg4.size
   have hz2:=hb13.size
   refine ⟨rfl,hi4.gr (gr_trans (gr_set _ _ _ _) (gr_set _ _ _ _)) (by simp;omega),?_⟩
   have h2 : ∀ (w5 : World) (o : Nat) (v : Value),w.grownBy w5 (some r) → w.grownBy (w5.setCell ⟨w.heap.size + 1,o,none⟩ v) (some r):=fun w5 o v h=>
    ⟨(gr_set w5 _ o v).os.trans h.os,(gr_set w5 _ o v).tape.trans h.tape,(gr_set w5 _ o v).output.trans h.output,Nat.le_trans h.size (gr_set w5 (w.heap.size + 1) o v).size,fun j hj hr=>((gr_set w5 (w.heap.size + 1) o v).block j (Nat.lt_of_lt_of_le hj h.size) (by simp;omega)).trans (h.block j hj hr)⟩
   exact h2 _ _ _ (h2 _ _ _ hg)
set_option maxRecDepth 100000 in
theorem cnote_any (w : World) (r : Nat) (x : RS) (kd fb bu : Int) (g : Bool) (hT : TW w) (hr : 4 ≤ r) (h : InX w r x) (hk : okR x) (hs : x.s.size ≤ 1048576) :
 Calls Tryz.prog 84 #[.agg #[.pointer (some ⟨r,0,none⟩),.int .i64 kd,.int .i64 fb,.bool g,.int .i64 bu]] w
  fun v w'=>v = .returned (.agg #[.string (noteR (RM fb g) x).2.name,.string (noteR (RM fb g) x).2.text,.int .i64 (noteR (RM fb g) x).2.set]) ∧ InX w' r (noteR (RM fb g) x).1 ∧ w.grownBy w' (some r):=by
 have k1:=fun w h=>csized_any w r x kd fb bu g h hk
 have hky:=okR_sized hk
 have hts:=sizedR_len x
 have hat : 0 ≤ (sizedR x).2.2 ∧ (sizedR x).2.2 ≤ 2199023255552:=by
  have h1:=okR_num hk
  unfold okR at h1
  show 0 ≤ ((numR x).1.b : Int) + (numR x).1.n ∧ ((numR x).1.b : Int) + (numR x).1.n ≤ 2199023255552
  omega
 have hN : noteR (RM fb g) x = if (sizedR x).1.e ≠ 0 then ((sizedR x).1,⟨⟨#[]⟩,⟨#[]⟩,0⟩) else
  (if aheadM (bl (sizedR x).2.1) = 0 ∨ (bl (sizedR x).2.1)[aheadM (bl (sizedR x).2.1)]? ≠ some 61 then (failR (sizedR x).1 1 ((sizedR x).2.2 + aheadM (bl (sizedR x).2.1)),⟨⟨#[]⟩,⟨#[]⟩,0⟩) else
  ((leafR (RM fb g) (sizedR x).1 ((sizedR x).2.1.extract (aheadM (bl (sizedR x).2.1) + 1) (sizedR x).2.1.size) ((sizedR x).2.2 + aheadM (bl (sizedR x).2.1) + 1)).1,
   ⟨(sizedR x).2.1.extract 0 (aheadM (bl (sizedR x).2.1)),(leafR (RM fb g) (sizedR x).1 ((sizedR x).2.1.extract (aheadM (bl (sizedR x).2.1) + 1) (sizedR x).2.1.size) ((sizedR x).2.2 + aheadM (bl (sizedR x).2.1) + 1)).2.1,
    (leafR (RM fb g) (sizedR x).1 ((sizedR x).2.1.extract (aheadM (bl (sizedR x).2.1) + 1) (sizedR x).2.1.size) ((sizedR x).2.2 + aheadM (bl (sizedR x).2.1) + 1)).2.2⟩)):=rfl
 rw [hN]
 clear hN
 generalize sizedR x = z at *
 obtain ⟨y,t,at_⟩:=z
 simp only at k1 hky hts hat ⊢
 have han:=(ahead_all (bl t)).2
 have k3:=fun w=>cahead_any t w (by omega)
 rw [bl_length] at han
 generalize hne : aheadM (bl t) = n at *
 have k2:=fun w h=>inx_fault w r y h
 have k2b:=fun w=>bad_any y.e y.a w
 have k4:=fun w h=>inx_fail w r y 1 (at_ + n) h
 have hw1 : IntKind.i64.wrap (at_ + (n : Int)) = at_ + n:=wi64 _ (by omega) (by omega)
 have hw2 : IntKind.i64.wrap (at_ + (n : Int) + 1) = at_ + n + 1:=wi64 _ (by omega) (by omega)
 have hw3 : IntKind.i64.wrap ((n : Int) + 1) = (n : Int) + 1:=wi64 _ (by omega) (by omega)
 have hrl:=h.lt
 obtain ⟨W,hW⟩ : ∃ W,W = (w.alloc (.cells #[.pointer (some ⟨r,0,none⟩),.int .i64 kd,.int .i64 fb,.bool g,.int .i64 bu] 129)).alloc (.cells #[.string ⟨#[]⟩,.string ⟨#[]⟩,.int .i64 0] 108):=⟨_,rfl⟩
 have hs1 : (w.alloc (.cells #[.pointer (some ⟨r,0,none⟩),.int .i64 kd,.int .i64 fb,.bool g,.int .i64 bu] 129)).heap.size = w.heap.size + 1:=World.size_alloc _ _
 have hbW : Below w.heap.size w W:=by rw [hW];exact bal (bal (Below.refl _ _) _) _
 have hWs : W.heap.size = w.heap.size + 2:=by rw [hW,World.size_alloc,World.size_alloc]
 have lc : ∀ (i : Nat) (v : Value),(#[.pointer (some ⟨r,0,none⟩),.int .i64 kd,.int .i64 fb,.bool g,.int .i64 bu] : Array Value)[i]? = some v → Live W w.heap.size i v:=by
  intro i v hv;rw [hW];exact ((Live.fresh w _ 129 i v hv).alloc _)
 have SC : ∀ w',W.grownBy w' (some r) → Live w' w.heap.size 0 (.pointer (some ⟨r,0,none⟩)) ∧ Live w' w.heap.size 1 (.int .i64 kd) ∧ Live w' w.heap.size 2 (.int .i64 fb) ∧ Live w' w.heap.size 3 (.bool g) ∧ Live w' w.heap.size 4 (.int .i64 bu):=fun w' hg=>
  ⟨live_gr (lc 0 _ rfl) hg (by simp;omega),live_gr (lc 1 _ rfl) hg (by simp;omega),live_gr (lc 2 _ rfl) hg (by simp;omega),live_gr (lc 3 _ rfl) hg (by simp;omega),live_gr (lc 4 _ rfl) hg (by simp;omega)⟩
 have NC : ∀ w',W.grownBy w' (some r) → Live w' (w.heap.size + 1) 0 (.string ⟨#[]⟩) ∧ Live w' (w.heap.size + 1) 1 (.string ⟨#[]⟩) ∧ Live w' (w.heap.size + 1) 2 (.int .i64 0):=by
  intro w' hg
  have m : ∀ (i : Nat) (v : Value),(#[.string ⟨#[]⟩,.string ⟨#[]⟩,.int .i64 0] : Array Value)[i]? = some v → Live W (w.heap.size + 1) i v:=by
   intro i v hv;rw [hW,← hs1];exact Live.fresh _ _ 108 i v hv
  exact ⟨live_gr (m 0 _ rfl) hg (by simp;omega),live_gr (m 1 _ rfl) hg (by simp;omega),live_gr (m 2 _ rfl) hg (by simp;omega)⟩
 have hIW:=h.bel hbW
 have hTW:=hT.bel hbW
 have hgW : w.grownBy W (some r):=gr_below hbW
 have hS0:=SC W (gr_refl _ _)
 have K1:=Lib.hid k1
 have K2:=Lib.hid k2
 have K2B:=Lib.hid k2b
 have K3:=Lib.hid k3
 have K4:=Lib.hid k4
 have HGW:=Lib.hid hgW
 have HTW:=Lib.hid hTW
 have HIW:=Lib.hid hIW
 have HSC:=Lib.hid SC
 have HNC:=Lib.hid NC
 have HWS:=Lib.hid hWs
 have HNE:=Lib.hid hne
 clear k1 k2 k2b k3 k4 hgW hTW hIW SC NC hWs hne
 clear lc hs1 hT h hbW hk
 obtain ⟨⟨s0,_⟩,⟨s1,_⟩,⟨s2,_⟩,⟨s3,_⟩,⟨s4,_⟩⟩:=hS0
 by_cases he : y.e = 0
 · rw [if_neg (by simpa using he)]
   have hd : (!decide (y.e = 0)) = false:=by simpa using he
   rw [hd] at K2B
   clear he hd
   have X61 : ∀ h,(⟨#[61]⟩ : ByteArray)[0]'h = 61:=fun h=>rfl
   by_cases hn0 : n = 0
   · rw [if_pos (.inl hn0)]
     have b0 : ((n : Int) == 0) = true:=by simp [hn0]
     clear X61 hn0
     go_enter Tryz.func84,Tryz.ntmps84
     go_wp2_with fail
     rw [← hW]
     clear hW
     go_wp2_with (first
      | (go_at_call 81;refine (K1.out _ HIW.out).mono ?_;rintro e w1 ⟨rfl,hi1,hg1⟩;obtain ⟨⟨p0,_⟩,⟨p1,_⟩,⟨p2,_⟩,⟨p3,_⟩,⟨p4,_⟩⟩:=HSC.out _ hg1)
      | (go_at_call 46;refine (K2.out _ hi1).mono ?_;rintro e w2 ⟨rfl,hb2⟩;have hg2:=gr_trans hg1 (gr_below hb2))
      | (go_at_call 18;refine (K2B.out _).mono ?_;rintro e w3 ⟨rfl,hb3⟩;have hg3:=gr_trans hg2 (gr_below hb3))
      | (go_at_call 103;refine (K3.out _).mono ?_;rintro e w4 ⟨rfl,hb4⟩;have hg4:=gr_trans hg3 (gr_below hb4);obtain ⟨⟨p0,_⟩,⟨p1,_⟩,⟨p2,_⟩,⟨p3,_⟩,⟨p4,_⟩⟩:=HSC.out _ hg4;have hi4:=((hi1.bel hb2).bel hb3).bel hb4))
     go_quiet (fail)
     go_wp2_with (go_at_call 52;refine (K4.out _ (hi4.bel (bdn (Below.refl _ _) _))).mono ?_;rintro e w5 ⟨rfl,hi5,hg5⟩;have hg6:=gr_trans (gr_drewN hg4 _) hg5;obtain ⟨⟨q0,q0'⟩,⟨q1,q1'⟩,⟨q2,q2'⟩⟩:=HNC.out _ hg6)
     refine bodyPost_ret (v:=.agg #[.string ⟨#[]⟩,.string ⟨#[]⟩,.int .i64 0]) (by simp [results,Tryz.results84,go_sem,q0,q1,q2,q0',q1',q2']) rfl ?_
     exact ⟨rfl,hi5.gr (gr_trans (gr_trans (gr_set _ _ _ _) (gr_set _ _ _ _)) (gr_set _ _ _ _)) (by simp;omega),gr_setN (gr_setN (gr_setN (gr_trans HGW.out hg6) (by simp) _) (by simp) _) (by simp) _⟩
   by_cases hns : n = t.size
   · rw [if_pos (.inr (by rw [List.getElem?_eq_none (by rw [bl_length];omega)];simp))]
     have b0 : ((n : Int) == 0) = false:=by simpa using hn0
     have b1 : ((n : Int) == (t.size : Int)) = true:=by simp [hns]
     clear X61 hns
     go_enter Tryz.func84,Tryz.ntmps84
     go_wp2_with fail
     rw [← hW]
     clear hW
     go_wp2_with (first
      | (go_at_call 81;refine (K1.out _ HIW.out).mono ?_;rintro e w1 ⟨rfl,hi1,hg1⟩;obtain ⟨⟨p0,_⟩,⟨p1,_⟩,⟨p2,_⟩,⟨p3,_⟩,⟨p4,_⟩⟩:=HSC.out _ hg1)
      | (go_at_call 46;refine (K2.out _ hi1).mono ?_;rintro e w2 ⟨rfl,hb2⟩;have hg2:=gr_trans hg1 (gr_below hb2))
      | (go_at_call 18;refine (K2B.out _).mono ?_;rintro e w3 ⟨rfl,hb3⟩;have hg3:=gr_trans hg2 (gr_below hb3))
      | (go_at_call 103;refine (K3.out _).mono ?_;rintro e w4 ⟨rfl,hb4⟩;have hg4:=gr_trans hg3 (gr_below hb4);obtain ⟨⟨p0,_⟩,⟨p1,_⟩,⟨p2,_⟩,⟨p3,_⟩,⟨p4,_⟩⟩:=HSC.out _ hg4;have hi4:=((hi1.bel hb2).bel hb3).bel hb4))
     go_quiet (fail)
     go_wp2_with (go_at_call 52;refine (K4.out _ (hi4.bel (bdn (Below.refl _ _) _))).mono ?_;rintro e w5 ⟨rfl,hi5,hg5⟩;have hg6:=gr_trans (gr_drewN hg4 _) hg5;obtain ⟨⟨q0,q0'⟩,⟨q1,q1'⟩,⟨q2,q2'⟩⟩:=HNC.out _ hg6)
     refine bodyPost_ret (v:=.agg #[.string ⟨#[]⟩,.string ⟨#[]⟩,.int .i64 0]) (by simp [results,Tryz.results84,go_sem,q0,q1,q2,q0',q1',q2']) rfl ?_
     exact ⟨rfl,hi5.gr (gr_trans (gr_trans (gr_set _ _ _ _) (gr_set _ _ _ _)) (gr_set _ _ _ _)) (by simp;omega),gr_setN (gr_setN (gr_setN (gr_trans HGW.out hg6) (by simp) _) (by simp) _) (by simp) _⟩
   obtain ⟨c,hc⟩:=at_some (bl t) n (by rw [bl_length];omega)
   have X : ∀ h,t[n]'h = c:=atB_of t n c hc
   have b0 : ((n : Int) == 0) = false:=by simpa using hn0
   have b1 : ((n : Int) == (t.size : Int)) = false:=by simp;omega
   have hlt : n < t.size:=by omega
   by_cases hc61 : c = 61
   · rw [if_neg (by rw [not_or];exact ⟨hn0,by rw [hc,hc61];simp⟩)]
     subst hc61
     have k5 : ∀ w',W.grownBy w' (some r) → InX w' r y → TW w' → Calls Tryz.prog 82 #[.agg #[.pointer (some ⟨r,0,none⟩),.int .i64 kd,.int .i64 fb,.bool g,.int .i64 bu],.string (t.extract (n + 1) t.size),.int .i64 (at_ + n + 1)] w' fun v w''=>
      v = .returned (.agg #[.string (leafR (RM fb g) y (t.extract (n + 1) t.size) (at_ + n + 1)).2.1,.int .i64 (leafR (RM fb g) y (t.extract (n + 1) t.size) (at_ + n + 1)).2.2]) ∧ InX w'' r (leafR (RM fb g) y (t.extract (n + 1) t.size) (at_ + n + 1)).1 ∧ W.grownBy w'' (some r):=by
      intro w' hg hi hT'
      refine (cleaf_any w' r y kd fb bu g (t.extract (n + 1) t.size) (at_ + n + 1) hT' hr hi (by rw [ByteArray.size_extract];omega) (by omega) (by omega)).mono ?_
      rintro e w'' ⟨h1,h2,h3⟩
      exact ⟨h1,h2,gr_trans hg h3⟩
     generalize leafR (RM fb g) y (t.extract (n + 1) t.size) (at_ + n + 1) = Z at *
     obtain ⟨z,u,cc⟩:=Z
     simp only at k5 ⊢
     have i0 : (0 : Int) ≤ (n : Int):=by omega
     have i1 : (n : Int) ≤ (t.size : Int):=by omega
     have i2 : (0 : Int) ≤ (n : Int) + 1:=by omega
     have i3 : (n : Int) + 1 ≤ (t.size : Int):=by omega
     have i4 : ((n : Int) + 1).toNat = n + 1:=by omega
     have K5:=Lib.hid k5
     clear k5
     clear hc
     go_enter Tryz.func84,Tryz.ntmps84
     go_wp2_with fail
     rw [← hW]
     clear hW
     go_wp2_with (first
      | (go_at_call 81;refine (K1.out _ HIW.out).mono ?_;rintro e w1 ⟨rfl,hi1,hg1⟩;obtain ⟨⟨p0,_⟩,⟨p1,_⟩,⟨p2,_⟩,⟨p3,_⟩,⟨p4,_⟩⟩:=HSC.out _ hg1)
      | (go_at_call 46;refine (K2.out _ hi1).mono ?_;rintro e w2 ⟨rfl,hb2⟩;have hg2:=gr_trans hg1 (gr_below hb2))
      | (go_at_call 18;refine (K2B.out _).mono ?_;rintro e w3 ⟨rfl,hb3⟩;have hg3:=gr_trans hg2 (gr_below hb3))
      | (go_at_call 103;refine (K3.out _).mono ?_;rintro e w4 ⟨rfl,hb4⟩;have hg4:=gr_trans hg3 (gr_below hb4);obtain ⟨⟨p0,_⟩,⟨p1,_⟩,⟨p2,_⟩,⟨p3,_⟩,⟨p4,_⟩⟩:=HSC.out _ hg4;have hi4:=((hi1.bel hb2).bel hb3).bel hb4))
     go_quiet (fail)
     go_wp2
     go_region_held3 (fun w'=>w'.cell? ⟨w.heap.size,0,none⟩ = some (.pointer (some ⟨r,0,none⟩)) ∧ w'.cell? ⟨w.heap.size,1,none⟩ = some (.int .i64 kd) ∧ w'.cell? ⟨w.heap.size,2,none⟩ = some (.int .i64 fb) ∧ w'.cell? ⟨w.heap.size,3,none⟩ = some (.bool g) ∧ w'.cell? ⟨w.heap.size,4,none⟩ = some (.int .i64 bu))
      (first | go_keep | (obtain ⟨⟨z0,_⟩,⟨z1,_⟩,⟨z2,_⟩,⟨z3,_⟩,⟨z4,_⟩⟩:=HSC.out _ hg5;exact ⟨z0,z1,z2,z3,z4⟩))
      ((go_at_call 82;refine (K5.out _ ?_ ?_ ?_).mono ?_;(first | exact gr_drewN hg4 _ | exact gr_trans (gr_drewN hg4 _) (gr_below (Below.refl _ _).drew));(first | exact hi4.bel (bdn (Below.refl _ _) _) | exact (hi4.bel (bdn (Below.refl _ _) _)).bel (Below.refl _ _).drew);(first | exact (HTW.out.grown hg4 (by intro k hk;cases hk;exact hr)).drewN _ | exact ((HTW.out.grown hg4 (by intro k hk;cases hk;exact hr)).drewN _).drew);rintro e w5 ⟨rfl,hi5,hg5⟩;obtain ⟨⟨q0,q0'⟩,⟨q1,q1'⟩,⟨q2,q2'⟩⟩:=HNC.out _ hg5))
     go_wp2_with fail
     refine bodyPost_ret (v:=.agg #[.string (t.extract 0 n),.string u,.int .i64 cc]) (by simp [results,Tryz.results84,go_sem,q0,q1,q2,q0',q1',q2']) rfl ?_
     exact ⟨rfl,hi5.gr (gr_trans (gr_trans (gr_set _ _ _ _) (gr_set _ _ _ _)) (gr_set _ _ _ _)) (by simp;omega),gr_setN (gr_setN (gr_setN (gr_trans HGW.out hg5) (by simp) _) (by simp) _) (by simp) _⟩
   · rw [if_pos (.inr (by rw [hc];simpa using hc61))]
     have hcz : ¬ (c.toNat : Int) = 61:=fun h=>hc61 (UInt8.toNat_inj.1 (by show c.toNat = 61;omega))
     have b2 : ((c.toNat : Int) != 61) = true:=by simpa using hcz
     clear hc
     go_enter Tryz.func84,Tryz.ntmps84
     go_wp2_with fail
     rw [← hW]
     clear hW
     go_wp2_with (first
      | (go_at_call 81;refine (K1.out _ HIW.out).mono ?_;rintro e w1 ⟨rfl,hi1,hg1⟩;obtain ⟨⟨p0,_⟩,⟨p1,_⟩,⟨p2,_⟩,⟨p3,_⟩,⟨p4,_⟩⟩:=HSC.out _ hg1)
      | (go_at_call 46;refine (K2.out _ hi1).mono ?_;rintro e w2 ⟨rfl,hb2⟩;have hg2:=gr_trans hg1 (gr_below hb2))
      | (go_at_call 18;refine (K2B.out _).mono ?_;rintro e w3 ⟨rfl,hb3⟩;have hg3:=gr_trans hg2 (gr_below hb3))
      | (go_at_call 103;refine (K3.out _).mono ?_;rintro e w4 ⟨rfl,hb4⟩;have hg4:=gr_trans hg3 (gr_below hb4);obtain ⟨⟨p0,_⟩,⟨p1,_⟩,⟨p2,_⟩,⟨p3,_⟩,⟨p4,_⟩⟩:=HSC.out _ hg4;have hi4:=((hi1.bel hb2).bel hb3).bel hb4))
     go_quiet (fail)
     go_wp2_with (go_at_call 52;refine (K4.out _ (hi4.bel (bdn (Below.refl _ _) _))).mono ?_;rintro e w5 ⟨rfl,hi5,hg5⟩;have hg6:=gr_trans (gr_drewN hg4 _) hg5;obtain ⟨⟨q0,q0'⟩,⟨q1,q1'⟩,⟨q2,q2'⟩⟩:=HNC.out _ hg6)
     refine bodyPost_ret (v:=.agg #[.string ⟨#[]⟩,.string ⟨#[]⟩,.int .i64 0]) (by simp [results,Tryz.results84,go_sem,q0,q1,q2,q0',q1',q2']) rfl ?_
     exact ⟨rfl,hi5.gr (gr_trans (gr_trans (gr_set _ _ _ _) (gr_set _ _ _ _)) (gr_set _ _ _ _)) (by simp;omega),gr_setN (gr_setN (gr_setN (gr_trans HGW.out hg6) (by simp) _) (by simp) _) (by simp) _⟩
 · rw [if_pos he]
   have hd : (!decide (y.e = 0)) = true:=by simpa using he
   rw [hd] at K2B
   go_enter Tryz.func84,Tryz.ntmps84
   go_wp2_with fail
   rw [← hW]
   clear hW
   go_wp2_with (first
    | (go_at_call 81;refine (K1.out _ HIW.out).mono ?_;rintro e w1 ⟨rfl,hi1,hg1⟩;obtain ⟨⟨p0,_⟩,⟨p1,_⟩,⟨p2,_⟩,⟨p3,_⟩,⟨p4,_⟩⟩:=HSC.out _ hg1)
    | (go_at_call 46;refine (K2.out _ hi1).mono ?_;rintro e w2 ⟨rfl,hb2⟩;have hg2:=gr_trans hg1 (gr_below hb2))
    | (go_at_call 18;refine (K2B.out _).mono ?_;rintro e w3 ⟨rfl,hb3⟩;have hg3:=gr_trans hg2 (gr_below hb3);obtain ⟨⟨q0,q0'⟩,⟨q1,q1'⟩,⟨q2,q2'⟩⟩:=HNC.out _ hg3;have hi3:=(hi1.bel hb2).bel hb3))
   refine bodyPost_ret (v:=.agg #[.string ⟨#[]⟩,.string ⟨#[]⟩,.int .i64 0]) (by simp [results,Tryz.results84,go_sem,q0,q1,q2,q0',q1',q2']) rfl ?_
   exact ⟨rfl,hi3.gr (gr_trans (gr_trans (gr_set _ _ _ _) (gr_set _ _ _ _)) (gr_set _ _ _ _)) (by simp;omega),gr_setN (gr_setN (gr_setN (gr_trans HGW.out hg3) (by simp) _) (by simp) _) (by simp) _⟩
end Go.Proofs.YtnbglcaeekppjaaGreatDoor
