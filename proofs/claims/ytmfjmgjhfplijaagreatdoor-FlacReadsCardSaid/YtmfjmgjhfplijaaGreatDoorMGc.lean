/- Gc -/
import Derived.Test.YtmfjmgjhfplijaaGreatDoorMGb
set_option linter.unusedVariables false
set_option linter.unusedSimpArgs false
set_option maxHeartbeats 16000000
namespace Go.Proofs.YtmfjmgjhfplijaaGreatDoor
open Go.RowKit
def RNotePost (p : RS × Nt) (w : World) (e : Ending) (w' : World) : Prop:=e = .returned (.tuple #[inV p.1,.agg #[.string p.2.name,.string p.2.text,.int .i64 p.2.set]]) ∧ Below w.heap.size w w'
theorem set53 {w W : World} {H : Nat} (hb : Below w.heap.size w W) (hH : w.heap.size ≤ H) (a b c d e f g h : Value) : Below w.heap.size w (((((((((W.setCell ⟨H,0,none⟩ a).setCell ⟨H,1,none⟩ b).setCell ⟨H,2,none⟩ c).setCell ⟨H,3,none⟩ d).setCell ⟨H,4,none⟩ e).setCell ⟨H + 1,0,none⟩ f).setCell ⟨H + 1,1,none⟩ g).setCell ⟨H + 1,2,none⟩ h)):=
 (((set5 hb hH a b c d e).setCell (by simp;omega) _).setCell (by simp;omega) _).setCell (by simp;omega) _
set_option maxRecDepth 100000 in
theorem r19note_any (x : RS) (fb : Int) (g : Bool) (w : World) (hk : okR x) (hs : x.s.size ≤ 1048576) :
 Calls Tryz.prog 98 #[inV x,.int .i64 fb,.bool g] w (RNotePost (noteR (RM fb g) x) w):=by
 obtain ⟨RES,hRES⟩ : ∃ RES,RES = noteR (RM fb g) x:=⟨_,rfl⟩
 rw [← hRES]
 unfold noteR sizedR at hRES
 simp only at hRES
 have k1:=fun w=>r19num_any x w hk
 have hok1:=okR_num hk
 have hN : (numR x).2 < 4294967296:=by
  unfold numR
  simp only
  refine Nat.lt_of_lt_of_le (leN_lt _) ?_
  rw [bl_length]
  exact Nat.le_trans (Nat.pow_le_pow_right (by decide) (takeR_size x 4)) (by decide)
 have hys : (numR x).1.s.size ≤ 1048576:=by unfold numR;simp only;rw [takeR_s];exact hs
 generalize numR x = Y at *
 obtain ⟨y,N⟩:=Y
 simp only at k1 hok1 hN hys hRES
 have k2:=fun w=>rtake_any y N w hok1 (by omega) (by omega)
 have hok2:=okR_take hok1 (N : Int)
 have hts : (takeR y N).2.size ≤ 1048576:=Nat.le_trans (takeR_len _ _) hys
 have hyb : y.b ≤ 1099511627776 ∧ y.n ≤ 1048576:=⟨hok1.2.2,Nat.le_trans hok1.1 hys⟩
 generalize takeR y N = Z at *
 obtain ⟨z,t⟩:=Z
 simp only at k2 hok2 hts hRES
 have kf:=fun (p : Int) w=>rfail_any z 1 p w
 have kt:=fun (u : ByteArray) (a : Int) (w : World) (h1 : u.size ≤ 1048576) (h2 : 0 ≤ a) (h3 : a ≤ 1152921504606846976)=>r19text_any z u a fb g w h1 h2 h3
 unfold TextPost textR at kt
 have kl:=fun (c : UInt8) w=>rletter_any c w
 unfold RNotePost
 have HL : Hid ((bl t).length = t.size):=bl_length t
 obtain ⟨xs,xn,xb,xe,xa⟩:=x
 obtain ⟨ys,yn,yb,ye,ya⟩:=y
 obtain ⟨zs,zn,zb,ze,za⟩:=z
 rw [show inV ⟨xs,xn,xb,xe,xa⟩ = .agg #[.string xs,.int .i64 xn,.int .i64 xb,.int .i64 xe,.int .i64 xa] from rfl] at k1 ⊢
 rw [show inV ⟨ys,yn,yb,ye,ya⟩ = .agg #[.string ys,.int .i64 yn,.int .i64 yb,.int .i64 ye,.int .i64 ya] from rfl] at k1 k2
 rw [show inV ⟨zs,zn,zb,ze,za⟩ = .agg #[.string zs,.int .i64 zn,.int .i64 zb,.int .i64 ze,.int .i64 za] from rfl] at k2 kf kt
 simp only at hyb hRES kt
 obtain ⟨W,hW⟩ : ∃ W,W = ((w.alloc (.cells #[.string xs,.int .i64 xn,.int .i64 xb,.int .i64 xe,.int .i64 xa] 109)).alloc (.cells #[.string ⟨#[]⟩,.int .i64 0,.int .i64 0,.int .i64 0,.int .i64 0] 109)).alloc (.cells #[.string ⟨#[]⟩,.string ⟨#[]⟩,.int .i64 0] 42):=⟨_,rfl⟩
 have hz1 : (w.alloc (.cells #[.string xs,.int .i64 xn,.int .i64 xb,.int .i64 xe,.int .i64 xa] 109)).heap.size = w.heap.size + 1:=by simp only [World.size_alloc]
 have hz2 : ((w.alloc (.cells #[.string xs,.int .i64 xn,.int .i64 xb,.int .i64 xe,.int .i64 xa] 109)).alloc (.cells #[.string ⟨#[]⟩,.int .i64 0,.int .i64 0,.int .i64 0,.int .i64 0] 109)).heap.size = w.heap.size + 1 + 1:=by simp only [World.size_alloc]
 have hbW : Below w.heap.size w W:=by rw [hW];exact bal (bal (bal (Below.refl _ _) _) _) _
 have hWs : W.heap.size = w.heap.size + 1 + 1 + 1:=by rw [hW];simp only [World.size_alloc]
 have hB0 : W.heap[w.heap.size]? = some (.cells #[.string xs,.int .i64 xn,.int .i64 xb,.int .i64 xe,.int .i64 xa] 109 (0,0)):=by rw [hW];exact (heap_alloc_old _ _ (by simp only [World.size_alloc];omega)).trans ((heap_alloc_old _ _ (by simp only [World.size_alloc];omega)).trans (heap_alloc_new w _))
 have hB1 : W.heap[w.heap.size + 1]? = some (.cells #[.string ⟨#[]⟩,.int .i64 0,.int .i64 0,.int .i64 0,.int .i64 0] 109 (0,0)):=by rw [hW,← hz1];exact (heap_alloc_old _ _ (by simp only [World.size_alloc];omega)).trans (heap_alloc_new (w.alloc (.cells #[.string xs,.int .i64 xn,.int .i64 xb,.int .i64 xe,.int .i64 xa] 109)) _)
 have hB2 : W.heap[w.heap.size + 1 + 1]? = some (.cells #[.string ⟨#[]⟩,.string ⟨#[]⟩,.int .i64 0] 42 (0,0)):=by rw [hW,← hz2];exact heap_alloc_new ((w.alloc (.cells #[.string xs,.int .i64 xn,.int .i64 xb,.int .i64 xe,.int .i64 xa] 109)).alloc (.cells #[.string ⟨#[]⟩,.int .i64 0,.int .i64 0,.int .i64 0,.int .i64 0] 109)) _
 clear hz1 hz2
 obtain ⟨c0,c0'⟩:=live_of hB0 0 _ rfl
 obtain ⟨c1,c1'⟩:=live_of hB0 1 _ rfl
 obtain ⟨c2,c2'⟩:=live_of hB0 2 _ rfl
 obtain ⟨c3,c3'⟩:=live_of hB0 3 _ rfl
 obtain ⟨c4,c4'⟩:=live_of hB0 4 _ rfl
 have hwa : IntKind.i64.wrap ((yb : Int) + yn) = (yb : Int) + yn:=wi64 _ (by omega) (by omega)
 have K1:=Lib.hid k1
 have K2:=Lib.hid k2
 have KF:=Lib.hid kf
 have KT:=Lib.hid kt
 have KL:=Lib.hid kl
 have HBW:=Lib.hid hbW
 have HB0:=Lib.hid hB0
 have HB1:=Lib.hid hB1
 have HB2:=Lib.hid hB2
 have HWS:=Lib.hid hWs
 clear k1 k2 kf kt kl hbW hB0 hB1 hB2 hWs
 clear hok1 hok2 hN hys hk hs
 go_enter Tryz.func98,Tryz.ntmps98
 go_wp2_with fail
 rw [← hW]
 clear hW
 go_wp2_with (go_at_call 96;go_loud (with_reducible refine (K1.out _).mono ?_);go_loud (rintro e1 w1 ⟨rfl,hb1⟩);go_loud (have hr:=(hb1.block w.heap.size (by have:=HWS.out;omega)).trans HB0.out);go_loud (obtain ⟨r0,r0'⟩:=live_of hr 0 _ rfl);go_loud (obtain ⟨r1,r1'⟩:=live_of hr 1 _ rfl);go_loud (obtain ⟨r2,r2'⟩:=live_of hr 2 _ rfl);go_loud (obtain ⟨r3,r3'⟩:=live_of hr 3 _ rfl);go_loud (obtain ⟨r4,r4'⟩:=live_of hr 4 _ rfl))
 obtain ⟨W2,h2⟩ : ∃ W2,W2 = st5 w1 w.heap.size (.string ys) (.int .i64 yn) (.int .i64 yb) (.int .i64 ye) (.int .i64 ya):=⟨_,rfl⟩
 have hX : W2.heap[w.heap.size]? = some (.cells #[.string ys,.int .i64 yn,.int .i64 yb,.int .i64 ye,.int .i64 ya] 109 (0,0)):=by rw [h2];exact st5_blk hr _ _ _ _ _
 have hX1 : W2.heap[w.heap.size + 1]? = some (.cells #[.string ⟨#[]⟩,.int .i64 0,.int .i64 0,.int .i64 0,.int .i64 0] 109 (0,0)):=by rw [h2,st5_other _ _ _ _ _ _ _ _ (by omega)];exact (hb1.block _ (by have:=HWS.out;omega)).trans HB1.out
 have hX2 : W2.heap[w.heap.size + 1 + 1]? = some (.cells #[.string ⟨#[]⟩,.string ⟨#[]⟩,.int .i64 0] 42 (0,0)):=by rw [h2,st5_other _ _ _ _ _ _ _ _ (by omega)];exact (hb1.block _ (by have:=HWS.out;omega)).trans HB2.out
 have hbX : Below w.heap.size w W2:=by rw [h2];exact st5_below (bt HBW.out hb1) (Nat.le_refl _) _ _ _ _ _
 have hzX : w.heap.size + 1 + 1 < W2.heap.size:=(Array.getElem?_eq_some_iff.1 hX2).1
 unfold st5 at h2
 rw [← h2]
 clear h2 hr c0 c1 c2 c3 c4 c0' c1' c2' c3' c4' r0 r1 r2 r3 r4 r0' r1' r2' r3' r4' hb1
 obtain ⟨c0,c0'⟩:=live_of hX 0 _ rfl
 obtain ⟨c1,c1'⟩:=live_of hX 1 _ rfl
 obtain ⟨c2,c2'⟩:=live_of hX 2 _ rfl
 obtain ⟨c3,c3'⟩:=live_of hX 3 _ rfl
 obtain ⟨c4,c4'⟩:=live_of hX 4 _ rfl
 have HX:=Lib.hid hX
 have HX1:=Lib.hid hX1
 have HX2:=Lib.hid hX2
 have HBX:=Lib.hid hbX
 have HZX:=Lib.hid hzX
 clear hX hX1 hX2 hbX hzX
 with_reducible refine (K2.out _).mono ?_
 rintro e2 w3 ⟨rfl,hb3⟩
 have hr:=(hb3.block w.heap.size (by have:=HZX.out;omega)).trans HX.out
 obtain ⟨r0,r0'⟩:=live_of hr 0 _ rfl
 obtain ⟨r1,r1'⟩:=live_of hr 1 _ rfl
 obtain ⟨r2,r2'⟩:=live_of hr 2 _ rfl
 obtain ⟨r3,r3'⟩:=live_of hr 3 _ rfl
 obtain ⟨r4,r4'⟩:=live_of hr 4 _ rfl
 have hZ1:=(hb3.block (w.heap.size + 1) (by have:=HZX.out;omega)).trans HX1.out
 have hZ2:=(hb3.block (w.heap.size + 1 + 1) (by have:=HZX.out;omega)).trans HX2.out
 have hbZ:=bt HBX.out hb3
 clear c0 c1 c2 c3 c4 c0' c1' c2' c3' c4' hb3
 have HZ1:=Lib.hid hZ1
 have HZ2:=Lib.hid hZ2
 have HBZ:=Lib.hid hbZ
 have HR3:=Lib.hid hr
 have HRES:=Lib.hid hRES
 clear hZ1 hZ2 hbZ hr hRES
 by_cases hz : ze = 0
 · have d3 : (ze != 0) = false:=by rw [bne_eq_false_iff_eq];exact hz
   have hRES:=HRES.out
   rw [if_neg (by simpa using hz)] at hRES
   have kt : ∀ (u : ByteArray) (a : Int) (w : World),u.size ≤ 1048576 → 0 ≤ a → a ≤ 1152921504606846976 → Calls Tryz.prog 97 #[.agg #[.string zs,.int .i64 zn,.int .i64 zb,.int .i64 ze,.int .i64 za],.string u,.int .i64 a,.int .i64 fb,.bool g] w fun e w'=>e = .returned (.tuple #[inV (leafR (RM fb g) ⟨zs,zn,zb,ze,za⟩ u a).1,.string (leafR (RM fb g) ⟨zs,zn,zb,ze,za⟩ u a).2.1,.int .i64 (leafR (RM fb g) ⟨zs,zn,zb,ze,za⟩ u a).2.2]) ∧ Below w.heap.size w w':=fun u a w h1 h2 h3=>by
    have:=KT.out u a w h1 h2 h3
    rw [if_neg (by simpa using hz)] at this
    exact this
   have HRES2:=Lib.hid hRES
   have KT2:=Lib.hid kt
   clear hRES kt
   clear HRES KT hz
   go_wp2_with fail
   obtain ⟨W4,h4⟩ : ∃ W4,W4 = st5 w3 w.heap.size (.string zs) (.int .i64 zn) (.int .i64 zb) (.int .i64 ze) (.int .i64 za):=⟨_,rfl⟩
   have hX : W4.heap[w.heap.size]? = some (.cells #[.string zs,.int .i64 zn,.int .i64 zb,.int .i64 ze,.int .i64 za] 109 (0,0)):=by rw [h4];exact st5_blk HR3.out _ _ _ _ _
   have hX1 : W4.heap[w.heap.size + 1]? = some (.cells #[.string ⟨#[]⟩,.int .i64 0,.int .i64 0,.int .i64 0,.int .i64 0] 109 (0,0)):=by rw [h4,st5_other _ _ _ _ _ _ _ _ (by omega)];exact HZ1.out
   have hX2 : W4.heap[w.heap.size + 1 + 1]? = some (.cells #[.string ⟨#[]⟩,.string ⟨#[]⟩,.int .i64 0] 42 (0,0)):=by rw [h4,st5_other _ _ _ _ _ _ _ _ (by omega)];exact HZ2.out
   have hbX : Below w.heap.size w W4:=by rw [h4];exact st5_below HBZ.out (Nat.le_refl _) _ _ _ _ _
   have hzX : w.heap.size + 1 + 1 < W4.heap.size:=(Array.getElem?_eq_some_iff.1 hX2).1
   unfold st5 at h4
   rw [← h4]
   clear h4 r0 r1 r2 r3 r4 r0' r1' r2' r3' r4' HR3 HZ1 HZ2 HBZ HX HX1 HX2 HBX HZX
   have HX:=Lib.hid hX
   have HX1:=Lib.hid hX1
   have HX2:=Lib.hid hX2
   have HBX:=Lib.hid hbX
   have HZX:=Lib.hid hzX
   clear hX hX1 hX2 hbX hzX
   go_loopw [11] (fun iv wr=>∃ j : Nat,iv = .int .i64 (j : Int) ∧ j ≤ t.size ∧ Hid (((bl t).take j).all letter8 = true) ∧ Below W4.heap.size W4 wr) (fun iv _=>t.size - (intOf iv).toNat)
   case atStart=>exact ⟨0,rfl,Nat.zero_le _,Lib.hid (by simp),Below.refl _ _⟩
   case round=>
    obtain ⟨j,rfl,hj,hA,hbel⟩:=hrel
    have hr:=(hbel.block w.heap.size (by have:=HZX.out;omega)).trans HX.out
    have hr1:=(hbel.block (w.heap.size + 1) (by have:=HZX.out;omega)).trans HX1.out
    have hr2:=(hbel.block (w.heap.size + 1 + 1) (by have:=HZX.out;omega)).trans HX2.out
    obtain ⟨r0,r0'⟩:=live_of hr 0 _ rfl
    obtain ⟨r1,r1'⟩:=live_of hr 1 _ rfl
    obtain ⟨r2,r2'⟩:=live_of hr 2 _ rfl
    obtain ⟨r3,r3'⟩:=live_of hr 3 _ rfl
    obtain ⟨r4,r4'⟩:=live_of hr 4 _ rfl
    have hbw:=bt HBX.out hbel
    have HR:=Lib.hid hr
    have HR1:=Lib.hid hr1
    have HR2:=Lib.hid hr2
    have HBW4:=Lib.hid hbw
    clear hr hr1 hr2 hbw
    by_cases hlt : j < t.size
    · obtain ⟨c,hc⟩:=at_some (bl t) j (by rw [HL.out];exact hlt)
      have X : ∀ h,t[j]'h = c:=atB_of t j c hc
      have kl:=fun w=>KL.out c w
      have hcl:=c.toNat_lt
      have m0 : (0 : Int) ≤ (j : Int):=by omega
      have m1 : (j : Int) < (t.size : Int):=by omega
      cases hlc : letter8 c with
      | true=>
       rw [hlc] at kl
       have hA2 : Hid (((bl t).take (j + 1)).all letter8 = true):=Lib.hid (by
        obtain ⟨x1,x2⟩:=List.getElem?_eq_some_iff.1 hc
        rw [List.take_succ_eq_append_getElem x1,x2,List.all_append,hA.out]
        simp [hlc])
       have KL2:=Lib.hid kl
       clear kl
       clear hlc hc hA
       go_wp2_with (go_at_call 140;go_loud (refine (KL2.out _).mono ?_);go_loud (rintro e3 w5 ⟨rfl,rfl⟩))
       exact ⟨⟨j + 1,by go_num,by omega,hA2,hbel⟩,by simp [intOf];omega⟩
      | false=>
       rw [hlc] at kl
       have hah:=ahead_stop (bl t) j c hA.out hc hlc
       have hRES:=HRES2.out
       rw [hah,hc] at hRES
       have hyj : (yb : Int) + yn + j ≤ 1152921504606846976:=by omega
       have hwj : IntKind.i64.wrap ((yb : Int) + yn + j) = (yb : Int) + yn + j:=wi64 _ (by omega) (by omega)
       by_cases hbad : j = 0 ∨ c ≠ 61
       · rw [if_pos (by rcases hbad with h | h;exact .inl h;exact .inr (by simpa using h))] at hRES
         have kf:=fun w=>KF.out ((yb : Int) + yn + j) w
         generalize failR ⟨zs,zn,zb,ze,za⟩ 1 ((yb : Int) + yn + j) = F at *
         obtain ⟨Fs,Fn,Fb,Fe,Fa⟩:=F
         rw [show inV ⟨Fs,Fn,Fb,Fe,Fa⟩ = .agg #[.string Fs,.int .i64 Fn,.int .i64 Fb,.int .i64 Fe,.int .i64 Fa] from rfl] at kf
         have HR5:=Lib.hid hRES
         clear hRES
         have hbd : (j : Int) = 0 ∨ ((j : Int) ≠ 0 ∧ (c.toNat : Int) ≠ 61):=by
          rcases Nat.eq_zero_or_pos j with h | h
          · exact .inl (by omega)
          · rcases hbad with h2 | h2
            · omega
            · exact .inr ⟨by omega,fun h3=>h2 (UInt8.toNat_inj.1 (by show c.toNat = 61;omega))⟩
         have KL2:=Lib.hid kl
         have KF2:=Lib.hid kf
         clear kl kf
         clear hah hlc hc hA HRES2 hbad
         rcases hbd with h0 | ⟨h0,h6⟩
         · have dj : ((j : Int) == 0) = true:=by rw [beq_iff_eq];exact h0
           clear h0
           go_wp2_with (first
            | (go_at_call 140;go_loud (refine (KL2.out _).mono ?_);go_loud (rintro e3 w5 ⟨rfl,rfl⟩))
            | (go_at_call 47;go_loud (with_reducible refine (KF2.out _).mono ?_);go_loud (rintro e4 w6 ⟨rfl,hb6⟩);go_loud (have s1:=(hb6.block (w.heap.size + 1) (Array.getElem?_eq_some_iff.1 HR1.out).1).trans HR1.out);go_loud (have s2:=(hb6.block (w.heap.size + 1 + 1) (Array.getElem?_eq_some_iff.1 HR2.out).1).trans HR2.out);go_loud (obtain ⟨q0,q0'⟩:=live_of s1 0 _ rfl);go_loud (obtain ⟨q1,q1'⟩:=live_of s1 1 _ rfl);go_loud (obtain ⟨q2,q2'⟩:=live_of s1 2 _ rfl);go_loud (obtain ⟨q3,q3'⟩:=live_of s1 3 _ rfl);go_loud (obtain ⟨q4,q4'⟩:=live_of s1 4 _ rfl);go_loud (obtain ⟨p0,p0'⟩:=live_of s2 0 _ rfl);go_loud (obtain ⟨p1,p1'⟩:=live_of s2 1 _ rfl);go_loud (obtain ⟨p2,p2'⟩:=live_of s2 2 _ rfl)))
           refine bodyPost_ret (v:=.tuple #[.agg #[.string Fs,.int .i64 Fn,.int .i64 Fb,.int .i64 Fe,.int .i64 Fa],.agg #[.string ⟨#[]⟩,.string ⟨#[]⟩,.int .i64 0]]) (by simp [results,Tryz.results98,go_sem,q0,q1,q2,q3,q4,q0',q1',q2',q3',q4',p0,p1,p2,p0',p1',p2']) rfl ?_
           exact ⟨by rw [HR5.out];rfl,set53 (bt HBW4.out hb6) (by omega) _ _ _ _ _ _ _ _⟩
         · have dj : ((j : Int) == 0) = false:=by rw [beq_eq_false_iff_ne];exact h0
           have dc : ((c.toNat : Int) != 61) = true:=by rw [bne_iff_ne];exact h6
           clear h0 h6
           go_wp2_with (first
            | (go_at_call 140;go_loud (refine (KL2.out _).mono ?_);go_loud (rintro e3 w5 ⟨rfl,rfl⟩))
            | (go_at_call 47;go_loud (with_reducible refine (KF2.out _).mono ?_);go_loud (rintro e4 w6 ⟨rfl,hb6⟩);go_loud (have s1:=(hb6.block (w.heap.size + 1) (Array.getElem?_eq_some_iff.1 HR1.out).1).trans HR1.out);go_loud (have s2:=(hb6.block (w.heap.size + 1 + 1) (Array.getElem?_eq_some_iff.1 HR2.out).1).trans HR2.out);go_loud (obtain ⟨q0,q0'⟩:=live_of s1 0 _ rfl);go_loud (obtain ⟨q1,q1'⟩:=live_of s1 1 _ rfl);go_loud (obtain ⟨q2,q2'⟩:=live_of s1 2 _ rfl);go_loud (obtain ⟨q3,q3'⟩:=live_of s1 3 _ rfl);go_loud (obtain ⟨q4,q4'⟩:=live_of s1 4 _ rfl);go_loud (obtain ⟨p0,p0'⟩:=live_of s2 0 _ rfl);go_loud (obtain ⟨p1,p1'⟩:=live_of s2 1 _ rfl);go_loud (obtain ⟨p2,p2'⟩:=live_of s2 2 _ rfl)))
           refine bodyPost_ret (v:=.tuple #[.agg #[.string Fs,.int .i64 Fn,.int .i64 Fb,.int .i64 Fe,.int .i64 Fa],.agg #[.string ⟨#[]⟩,.string ⟨#[]⟩,.int .i64 0]]) (by simp [results,Tryz.results98,go_sem,q0,q1,q2,q3,q4,q0',q1',q2',q3',q4',p0,p1,p2,p0',p1',p2']) rfl ?_
           exact ⟨by rw [HR5.out];rfl,set53 (bt HBW4.out hb6) (by omega) _ _ _ _ _ _ _ _⟩
       · rw [not_or,Decidable.not_not] at hbad
         obtain ⟨h0,rfl⟩:=hbad
         rw [if_neg (by rw [not_or];exact ⟨h0,by simp⟩)] at hRES
         have dj : ((j : Int) == 0) = false:=by rw [beq_eq_false_iff_ne];omega
         have hjn : ((j : Int) + 1).toNat = j + 1:=by omega
         have hw1 : IntKind.i64.wrap ((yb : Int) + yn + j + 1) = (yb : Int) + yn + j + 1:=wi64 _ (by omega) (by omega)
         have kt:=fun w=>KT2.out (t.extract (j + 1) t.size) ((yb : Int) + yn + j + 1) w (by rw [ByteArray.size_extract];omega) (by omega) (by omega)
         generalize leafR (RM fb g) ⟨zs,zn,zb,ze,za⟩ (t.extract (j + 1) t.size) ((yb : Int) + yn + j + 1) = P at *
         obtain ⟨⟨Ps,Pn,Pb,Pe,Pa⟩,pt,pc⟩:=P
         simp only at kt hRES
         rw [show inV ⟨Ps,Pn,Pb,Pe,Pa⟩ = .agg #[.string Ps,.int .i64 Pn,.int .i64 Pb,.int .i64 Pe,.int .i64 Pa] from rfl] at kt
         have HR5:=Lib.hid hRES
         clear hRES
         have m2 : (j : Int) + 1 ≤ (t.size : Int):=by omega
         have m3 : (0 : Int) ≤ (j : Int) + 1:=by omega
         have m4 : (j : Int) ≤ (t.size : Int):=by omega
         have hw2 : IntKind.i64.wrap ((j : Int) + 1) = (j : Int) + 1:=wi64 _ (by omega) (by omega)
         have KL2:=Lib.hid kl
         have KT3:=Lib.hid kt
         clear kl kt
         clear hah hlc hc hA HRES2 h0
         have g0:=fun y : Grown wr=>y.cell r0
         have g1:=fun y : Grown wr=>y.cell r1
         have g2:=fun y : Grown wr=>y.cell r2
         have g3:=fun y : Grown wr=>y.cell r3
         have g4:=fun y : Grown wr=>y.cell r4
         go_wp2_with (go_at_call 140;go_loud (refine (KL2.out _).mono ?_);go_loud (rintro e3 w5 ⟨rfl,rfl⟩))
         clear g0 g1 g2 g3 g4
         have nn1:=World.new_ne wr ⟨w.heap.size,0,none⟩ r0
         have nn2 : ¬ w.heap.size = wr.heap.size:=fun h=>nn1 h.symm
         have KT4 : Hid (∀ W : World,Below wr.heap.size wr W → Calls Tryz.prog 97 #[.agg #[.string zs,.int .i64 zn,.int .i64 zb,.int .i64 ze,.int .i64 za],.string (t.extract (j + 1) t.size),.int .i64 ((yb : Int) + yn + j + 1),.int .i64 fb,.bool g] W fun e w'=>e = .returned (.tuple #[.agg #[.string Ps,.int .i64 Pn,.int .i64 Pb,.int .i64 Pe,.int .i64 Pa],.string pt,.int .i64 pc]) ∧ (∀ i,wr.heap.size < W.heap.size → w'.cell? ⟨wr.heap.size,i,none⟩ = W.cell? ⟨wr.heap.size,i,none⟩) ∧ (∀ i,wr.heap.size < W.heap.size → w'.frozen? ⟨wr.heap.size,i,none⟩ = W.frozen? ⟨wr.heap.size,i,none⟩) ∧ Below wr.heap.size wr w'):=Lib.hid fun W hb=>(KT3.out W).mono fun e w' q=>⟨q.1,fun i hi=>by have:=q.2.block wr.heap.size hi;simp [World.cell?,this],fun i hi=>by have:=q.2.block wr.heap.size hi;simp [World.frozen?,this],bt hb q.2⟩
         have ra0:=kc (bal (Below.refl wr.heap.size wr) (.cells #[.string ⟨#[]⟩,.int .i64 0,.int .i64 0,.int .i64 0,.int .i64 0] 109)) r0
         have ra1:=kc (bal (Below.refl wr.heap.size wr) (.cells #[.string ⟨#[]⟩,.int .i64 0,.int .i64 0,.int .i64 0,.int .i64 0] 109)) r1
         have ra2:=kc (bal (Below.refl wr.heap.size wr) (.cells #[.string ⟨#[]⟩,.int .i64 0,.int .i64 0,.int .i64 0,.int .i64 0] 109)) r2
         have ra3:=kc (bal (Below.refl wr.heap.size wr) (.cells #[.string ⟨#[]⟩,.int .i64 0,.int .i64 0,.int .i64 0,.int .i64 0] 109)) r3
         have ra4:=kc (bal (Below.refl wr.heap.size wr) (.cells #[.string ⟨#[]⟩,.int .i64 0,.int .i64 0,.int .i64 0,.int .i64 0] 109)) r4
         go_region_with (go_at_call 97;refine (KT4.out _ ?_).mono ?_;(first | exact (Below.refl _ _).drew | exact (bal (Below.refl _ _) _).drew);rintro e4 w6 ⟨rfl,hk1,hk2,hb7⟩;have r0:=kc hb7 r0;have r1:=kc hb7 r1;have r2:=kc hb7 r2;have r3:=kc hb7 r3;have r4:=kc hb7 r4)
         · skip
           have s1:=(hb7.block (w.heap.size + 1) (Array.getElem?_eq_some_iff.1 HR1.out).1).trans HR1.out
           have s2:=(hb7.block (w.heap.size + 1 + 1) (Array.getElem?_eq_some_iff.1 HR2.out).1).trans HR2.out
           obtain ⟨q0,q0'⟩:=(live_of s1 0 _ rfl).alloc (.cells #[.string Ps,.int .i64 Pn,.int .i64 Pb,.int .i64 Pe,.int .i64 Pa] 109)
           obtain ⟨q1,q1'⟩:=(live_of s1 1 _ rfl).alloc (.cells #[.string Ps,.int .i64 Pn,.int .i64 Pb,.int .i64 Pe,.int .i64 Pa] 109)
           obtain ⟨q2,q2'⟩:=(live_of s1 2 _ rfl).alloc (.cells #[.string Ps,.int .i64 Pn,.int .i64 Pb,.int .i64 Pe,.int .i64 Pa] 109)
           obtain ⟨q3,q3'⟩:=(live_of s1 3 _ rfl).alloc (.cells #[.string Ps,.int .i64 Pn,.int .i64 Pb,.int .i64 Pe,.int .i64 Pa] 109)
           obtain ⟨q4,q4'⟩:=(live_of s1 4 _ rfl).alloc (.cells #[.string Ps,.int .i64 Pn,.int .i64 Pb,.int .i64 Pe,.int .i64 Pa] 109)
           obtain ⟨p0,p0'⟩:=(live_of s2 0 _ rfl).alloc (.cells #[.string Ps,.int .i64 Pn,.int .i64 Pb,.int .i64 Pe,.int .i64 Pa] 109)
           obtain ⟨p1,p1'⟩:=(live_of s2 1 _ rfl).alloc (.cells #[.string Ps,.int .i64 Pn,.int .i64 Pb,.int .i64 Pe,.int .i64 Pa] 109)
           obtain ⟨p2,p2'⟩:=(live_of s2 2 _ rfl).alloc (.cells #[.string Ps,.int .i64 Pn,.int .i64 Pb,.int .i64 Pe,.int .i64 Pa] 109)
           clear s1 s2
           go_wp2_with fail
           go_region
           all_goals
            go_wp2_with fail
            refine bodyPost_ret (v:=.tuple #[.agg #[.string Ps,.int .i64 Pn,.int .i64 Pb,.int .i64 Pe,.int .i64 Pa],.agg #[.string (t.extract 0 j),.string pt,.int .i64 pc]]) (by simp [results,Tryz.results98,go_sem,q0,q1,q2,q3,q4,q0',q1',q2',q3',q4',p0,p1,p2,p0',p1',p2']) rfl ?_
            exact ⟨by rw [HR5.out];rfl,(set53 (bal (bt HBW4.out hb7) _) (by omega) _ _ _ _ _ _ _ _).drew⟩
         · skip
           have s1:=(hb7.block (w.heap.size + 1) (Array.getElem?_eq_some_iff.1 HR1.out).1).trans HR1.out
           have s2:=(hb7.block (w.heap.size + 1 + 1) (Array.getElem?_eq_some_iff.1 HR2.out).1).trans HR2.out
           obtain ⟨q0,q0'⟩:=(live_of s1 0 _ rfl)
           obtain ⟨q1,q1'⟩:=(live_of s1 1 _ rfl)
           obtain ⟨q2,q2'⟩:=(live_of s1 2 _ rfl)
           obtain ⟨q3,q3'⟩:=(live_of s1 3 _ rfl)
           obtain ⟨q4,q4'⟩:=(live_of s1 4 _ rfl)
           obtain ⟨p0,p0'⟩:=(live_of s2 0 _ rfl)
           obtain ⟨p1,p1'⟩:=(live_of s2 1 _ rfl)
           obtain ⟨p2,p2'⟩:=(live_of s2 2 _ rfl)
           have nn3 : ¬ wr.heap.size = w.heap.size + 1:=by have:=(Array.getElem?_eq_some_iff.1 HR1.out).1;omega
           have nn4 : ¬ wr.heap.size = w.heap.size + 1 + 1:=by have:=(Array.getElem?_eq_some_iff.1 HR2.out).1;omega
           have nn5 : ¬ w.heap.size + 1 = wr.heap.size:=fun h=>nn3 h.symm
           have nn6 : ¬ w.heap.size + 1 + 1 = wr.heap.size:=fun h=>nn4 h.symm
           clear s1 s2
           go_wp2_with fail
           go_region
           all_goals
            go_wp2_with fail
            refine bodyPost_ret (v:=.tuple #[.agg #[.string Ps,.int .i64 Pn,.int .i64 Pb,.int .i64 Pe,.int .i64 Pa],.agg #[.string (t.extract 0 j),.string pt,.int .i64 pc]]) (by simp [results,Tryz.results98,go_sem,q0,q1,q2,q3,q4,q0',q1',q2',q3',q4',p0,p1,p2,p0',p1',p2']) rfl ?_
            exact ⟨by rw [HR5.out];rfl,(set53 (set5 (bt HBW4.out hb7) HBW4.out.size _ _ _ _ _) (by omega) _ _ _ _ _ _ _ _).drew⟩
         · skip
           have s1:=(hb7.block (w.heap.size + 1) (Array.getElem?_eq_some_iff.1 HR1.out).1).trans HR1.out
           have s2:=(hb7.block (w.heap.size + 1 + 1) (Array.getElem?_eq_some_iff.1 HR2.out).1).trans HR2.out
           obtain ⟨q0,q0'⟩:=(live_of s1 0 _ rfl)
           obtain ⟨q1,q1'⟩:=(live_of s1 1 _ rfl)
           obtain ⟨q2,q2'⟩:=(live_of s1 2 _ rfl)
           obtain ⟨q3,q3'⟩:=(live_of s1 3 _ rfl)
           obtain ⟨q4,q4'⟩:=(live_of s1 4 _ rfl)
           obtain ⟨p0,p0'⟩:=(live_of s2 0 _ rfl)
           obtain ⟨p1,p1'⟩:=(live_of s2 1 _ rfl)
           obtain ⟨p2,p2'⟩:=(live_of s2 2 _ rfl)
           have nn3 : ¬ wr.heap.size = w.heap.size + 1:=by have:=(Array.getElem?_eq_some_iff.1 HR1.out).1;omega
           have nn4 : ¬ wr.heap.size = w.heap.size + 1 + 1:=by have:=(Array.getElem?_eq_some_iff.1 HR2.out).1;omega
           have nn5 : ¬ w.heap.size + 1 = wr.heap.size:=fun h=>nn3 h.symm
           have nn6 : ¬ w.heap.size + 1 + 1 = wr.heap.size:=fun h=>nn4 h.symm
           clear s1 s2
           go_wp2_with fail
           go_region
           all_goals
            go_wp2_with fail
            refine bodyPost_ret (v:=.tuple #[.agg #[.string Ps,.int .i64 Pn,.int .i64 Pb,.int .i64 Pe,.int .i64 Pa],.agg #[.string (t.extract 0 j),.string pt,.int .i64 pc]]) (by simp [results,Tryz.results98,go_sem,q0,q1,q2,q3,q4,q0',q1',q2',q3',q4',p0,p1,p2,p0',p1',p2']) rfl ?_
            exact ⟨by rw [HR5.out];rfl,(set53 (set5 (bt HBW4.out hb7) HBW4.out.size _ _ _ _ _) (by omega) _ _ _ _ _ _ _ _).drew⟩
    · have hjt : j = t.size:=by omega
      have ha:=hA.out
      rw [List.take_of_length_le (by rw [HL.out];omega)] at ha
      have hah:=ahead_full (bl t) ha
      rw [HL.out] at hah
      have hRES:=HRES2.out
      rw [hah,if_pos (.inr (by rw [List.getElem?_eq_none (by rw [HL.out];exact Nat.le_refl _)];simp))] at hRES
      have hwj : IntKind.i64.wrap ((yb : Int) + yn + t.size) = (yb : Int) + yn + t.size:=wi64 _ (by omega) (by omega)
      have kf:=fun w=>KF.out ((yb : Int) + yn + t.size) w
      generalize failR ⟨zs,zn,zb,ze,za⟩ 1 ((yb : Int) + yn + t.size) = F at *
      obtain ⟨Fs,Fn,Fb,Fe,Fa⟩:=F
      rw [show inV ⟨Fs,Fn,Fb,Fe,Fa⟩ = .agg #[.string Fs,.int .i64 Fn,.int .i64 Fb,.int .i64 Fe,.int .i64 Fa] from rfl] at kf
      have HR5:=Lib.hid hRES
      have KF2:=Lib.hid kf
      clear kf
      clear hRES hah ha hA HRES2 hjt
      go_wp2_with (go_at_call 47;go_loud (with_reducible refine (KF2.out _).mono ?_);go_loud (rintro e4 w6 ⟨rfl,hb6⟩);go_loud (have s1:=(hb6.block (w.heap.size + 1) (Array.getElem?_eq_some_iff.1 HR1.out).1).trans HR1.out);go_loud (have s2:=(hb6.block (w.heap.size + 1 + 1) (Array.getElem?_eq_some_iff.1 HR2.out).1).trans HR2.out);go_loud (obtain ⟨q0,q0'⟩:=live_of s1 0 _ rfl);go_loud (obtain ⟨q1,q1'⟩:=live_of s1 1 _ rfl);go_loud (obtain ⟨q2,q2'⟩:=live_of s1 2 _ rfl);go_loud (obtain ⟨q3,q3'⟩:=live_of s1 3 _ rfl);go_loud (obtain ⟨q4,q4'⟩:=live_of s1 4 _ rfl);go_loud (obtain ⟨p0,p0'⟩:=live_of s2 0 _ rfl);go_loud (obtain ⟨p1,p1'⟩:=live_of s2 1 _ rfl);go_loud (obtain ⟨p2,p2'⟩:=live_of s2 2 _ rfl))
      refine bodyPost_ret (v:=.tuple #[.agg #[.string Fs,.int .i64 Fn,.int .i64 Fb,.int .i64 Fe,.int .i64 Fa],.agg #[.string ⟨#[]⟩,.string ⟨#[]⟩,.int .i64 0]]) (by simp [results,Tryz.results98,go_sem,q0,q1,q2,q3,q4,q0',q1',q2',q3',q4',p0,p1,p2,p0',p1',p2']) rfl ?_
      exact ⟨by rw [HR5.out];rfl,set53 (bt HBW4.out hb6) (by omega) _ _ _ _ _ _ _ _⟩
 · have d3 : (ze != 0) = true:=by rw [bne_iff_ne];exact hz
   have hRES:=HRES.out
   rw [if_pos hz] at hRES
   subst hRES
   simp only
   clear hz HRES
   obtain ⟨q0,q0'⟩:=live_of HZ1.out 0 _ rfl
   obtain ⟨q1,q1'⟩:=live_of HZ1.out 1 _ rfl
   obtain ⟨q2,q2'⟩:=live_of HZ1.out 2 _ rfl
   obtain ⟨q3,q3'⟩:=live_of HZ1.out 3 _ rfl
   obtain ⟨q4,q4'⟩:=live_of HZ1.out 4 _ rfl
   obtain ⟨p0,p0'⟩:=live_of HZ2.out 0 _ rfl
   obtain ⟨p1,p1'⟩:=live_of HZ2.out 1 _ rfl
   obtain ⟨p2,p2'⟩:=live_of HZ2.out 2 _ rfl
   go_wp2_with fail
   refine bodyPost_ret (v:=.tuple #[.agg #[.string zs,.int .i64 zn,.int .i64 zb,.int .i64 ze,.int .i64 za],.agg #[.string ⟨#[]⟩,.string ⟨#[]⟩,.int .i64 0]]) (by simp [results,Tryz.results98,go_sem,q0,q1,q2,q3,q4,q0',q1',q2',q3',q4',p0,p1,p2,p0',p1',p2']) rfl ?_
   exact ⟨rfl,set53 (set5 HBZ.out (Nat.le_refl _) _ _ _ _ _) (by omega) _ _ _ _ _ _ _ _⟩
end Go.Proofs.YtmfjmgjhfplijaaGreatDoor
