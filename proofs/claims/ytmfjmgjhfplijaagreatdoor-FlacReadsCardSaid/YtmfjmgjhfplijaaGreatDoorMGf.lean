/- Gf -/
import Derived.Test.YtmfjmgjhfplijaaGreatDoorMGd
import Derived.Test.YtmfjmgjhfplijaaGreatDoorMFp
set_option linter.unusedVariables false
set_option linter.unusedSimpArgs false
set_option maxHeartbeats 64000000
namespace Go.Proofs.YtmfjmgjhfplijaaGreatDoor
open Go.RowKit
structure NF (w : World) (H : Nat) (x : RS) (f : Fl) (vm vb : Value) (wr : World) : Prop where
 bel : Below w.heap.size w wr
 z : wr.heap[w.heap.size]? = some (.cells #[.slice none 0 0,.string ⟨#[]⟩,.string ⟨#[]⟩,.int .i64 0,.slice none 0 0,.int .i64 0,.string ⟨#[]⟩] 47 (0,0))
 fl : wr.heap[w.heap.size + 1]? = some (.cells #[vm,.string ⟨#[]⟩,.string f.b.vt,.int .i64 f.b.vs,vb,.int .i64 f.at_,.string ⟨#[]⟩] 47 (0,0))
 hH : w.heap.size + 1 < H
 r : wr.heap[H]? = some (.cells #[.string x.s,.int .i64 x.n,.int .i64 x.b,.int .i64 x.e,.int .i64 x.a] 109 (0,0))
 om : wr.ownsRow (H + 1) 116 2 vm f.ms.length (rmcells f.ms)
 on : wr.ownsRow (H + 1) 42 3 vb f.b.ns.length (ntcells f.b.ns)
section
variable {w wr : World} {H : Nat} {x : RS} {f : Fl} {vm vb : Value}
theorem NF.sz (h : NF w H x f vm vb wr) : H + 1 ≤ wr.heap.size:=(Array.getElem?_eq_some_iff.1 h.r).1
theorem NF.keep (h : NF w H x f vm vb wr) {w' : World} (hb : Below wr.heap.size wr w') : NF w H x f vm vb w':=by
 have hz:=h.sz
 have hH:=h.hH
 exact ⟨bt h.bel hb,(hb.block _ (by omega)).trans h.z,(hb.block _ (by omega)).trans h.fl,hH,(hb.block _ (by omega)).trans h.r,orow_bel h.om hb,orow_bel h.on hb⟩
theorem NF.setr (h : NF w H x f vm vb wr) (y : RS) : NF w H y f vm vb (st5 wr H (.string y.s) (.int .i64 y.n) (.int .i64 y.b) (.int .i64 y.e) (.int .i64 y.a)):=by
 have hH:=h.hH
 exact ⟨st5_below h.bel (by omega) _ _ _ _ _,(st5_other _ _ _ _ _ _ _ _ (by omega)).trans h.z,(st5_other _ _ _ _ _ _ _ _ (by omega)).trans h.fl,hH,st5_blk h.r _ _ _ _ _,
  orow_other h.om fun q hq=>st5_other _ _ _ _ _ _ _ _ (by have:=(orow_blk h.om q hq).1;omega),orow_other h.on fun q hq=>st5_other _ _ _ _ _ _ _ _ (by have:=(orow_blk h.on q hq).1;omega)⟩
theorem NF.other (h : NF w H x f vm vb wr) {w' : World} (G : Nat) (hG : H < G) (hg : ∀ q,q ≠ G → w'.heap[q]? = wr.heap[q]?) (hb : Below w.heap.size w w') (hm : some G ≠ vm.ownBlock) (hn : some G ≠ vb.ownBlock) : NF w H x f vm vb w':=by
 have hH:=h.hH
 exact ⟨hb,(hg _ (by omega)).trans h.z,(hg _ (by omega)).trans h.fl,hH,(hg _ (by omega)).trans h.r,orow_other h.om fun q hq=>hg q (fun e=>hm (by rw [hq,e])),orow_other h.on fun q hq=>hg q (fun e=>hn (by rw [hq,e]))⟩
theorem NF.note (h : NF w H x f vm vb wr) (b : Bk) (vb' : Value) (a : Int) (ho : wr.ownsRow (H + 1) 42 3 vb' b.ns.length (ntcells b.ns)) :
 NF w H x ⟨f.ms,b,a,f.sound⟩ vm vb' (((((wr.setCell ⟨w.heap.size + 1,1,none⟩ (.string ⟨#[]⟩)).setCell ⟨w.heap.size + 1,2,none⟩ (.string b.vt)).setCell ⟨w.heap.size + 1,3,none⟩ (.int .i64 b.vs)).setCell ⟨w.heap.size + 1,4,none⟩ vb').setCell ⟨w.heap.size + 1,5,none⟩ (.int .i64 a)):=by
 have hH:=h.hH
 have s1:=Go.Lib.heap_setCell_same (i:=1) h.fl (.string ⟨#[]⟩)
 have s2:=Go.Lib.heap_setCell_same (i:=2) s1 (.string b.vt)
 have s3:=Go.Lib.heap_setCell_same (i:=3) s2 (.int .i64 b.vs)
 have s4:=Go.Lib.heap_setCell_same (i:=4) s3 vb'
 have s5:=Go.Lib.heap_setCell_same (i:=5) s4 (.int .i64 a)
 have ho2 : ∀ q,q ≠ w.heap.size + 1 → (((((wr.setCell ⟨w.heap.size + 1,1,none⟩ (.string ⟨#[]⟩)).setCell ⟨w.heap.size + 1,2,none⟩ (.string b.vt)).setCell ⟨w.heap.size + 1,3,none⟩ (.int .i64 b.vs)).setCell ⟨w.heap.size + 1,4,none⟩ vb').setCell ⟨w.heap.size + 1,5,none⟩ (.int .i64 a)).heap[q]? = wr.heap[q]?:=fun q hq=>by
  rw [Below.heap_setCell _ _ _ q hq,Below.heap_setCell _ _ _ q hq,Below.heap_setCell _ _ _ q hq,Below.heap_setCell _ _ _ q hq,Below.heap_setCell _ _ _ q hq]
 exact ⟨((((h.bel.setCell (by simp) _).setCell (by simp) _).setCell (by simp) _).setCell (by simp) _).setCell (by simp) _,(ho2 _ (by omega)).trans h.z,by rw [s5];simp,hH,(ho2 _ (by omega)).trans h.r,
  orow_other h.om fun q hq=>ho2 q (by have:=(orow_blk h.om q hq).1;omega),orow_other ho fun q hq=>ho2 q (by have:=(orow_blk ho q hq).1;omega)⟩
theorem NF.push (h : NF w H x f vm vb wr) {w7 : World} {v7 : Value} (m : Mt) (ho : w7.ownsRow (H + 1) 116 2 v7 (f.ms.length + 1) (rmcells f.ms ++ (#[.int .i64 m.kind,.string m.body] : Array Value).toList)) (hb : Below (H + 1) wr w7)
 (hk : ∀ k,k < wr.heap.size → some k ≠ vm.ownBlock → w7.heap[k]? = wr.heap[k]?) (hd : ∀ k,some k = vb.ownBlock → some k ≠ vm.ownBlock) :
 NF w H x ⟨f.ms ++ [m],f.b,f.at_,f.sound⟩ v7 vb (w7.setCell ⟨w.heap.size + 1,0,none⟩ v7):=by
 have hz:=h.sz
 have hH:=h.hH
 have hB:=(hb.block (w.heap.size + 1) (by omega)).trans h.fl
 have s3:=Go.Lib.heap_setCell_same (i:=0) hB v7
 have ho2 : ∀ q,q ≠ w.heap.size + 1 → (w7.setCell ⟨w.heap.size + 1,0,none⟩ v7).heap[q]? = w7.heap[q]?:=fun q hq=>Below.heap_setCell _ _ _ q hq
 refine ⟨(h.bel.trans (hb.mono (by omega))).setCell (by simp) _,(ho2 _ (by omega)).trans ((hb.block _ (by omega)).trans h.z),by rw [s3];simp,hH,(ho2 _ (by omega)).trans ((hb.block _ (by omega)).trans h.r),?_,?_⟩
 · simp only
   rw [List.length_append,rmcells_snoc]
   exact orow_other ho fun q hq=>ho2 q (by have:=(orow_blk ho q hq).1;omega)
 · exact orow_other h.on fun q hq=>by
    have h1:=orow_blk h.on q hq
    exact (ho2 q (by omega)).trans (hk q h1.2 (hd q hq.symm))
end
def RFParsePost (p : Fl × Int × Int) (w : World) (e : Ending) (w' : World) : Prop:=Below w.heap.size w w' ∧ ∃ vm vb,e = .returned (.tuple #[rfV vm vb p.1,.int .i64 p.2.1,.int .i64 p.2.2]) ∧ RfRow w' vm vb p.1
theorem parse_some {R : List UInt8 → Int} {x : RS} {b : Bk} (h : (parseR R false x).2 = some b) : (parseR R false x).1.e = 0:=by
 unfold parseR at h ⊢
 split at h
 · cases h
 · rename_i h1
   rw [if_neg h1]
   split at h
   · cases h
   · rename_i h2
     rw [if_neg h2]
     simp only at h ⊢
     split at h
     · cases h
     · rename_i h3;simpa using h3
theorem own_ne {w : World} {B C : Nat} {e1 e2 : TypeId} {s1 s2 : Nat} {v1 v2 : Value} {n1 n2 : Nat} {c1 c2 : List Value} (h1 : w.ownsRow B e1 s1 v1 n1 c1) (h2 : w.ownsRow C e2 s2 v2 n2 c2) (hne : e1 ≠ e2) : ∀ k,some k = v2.ownBlock → some k ≠ v1.ownBlock:=by
 intro k hk hk1
 rcases h1.2 with ⟨rfl,_⟩ | ⟨g,cap,cur,rfl,_,hh,_⟩
 · simp [Value.ownBlock] at hk1
 · rcases h2.2 with ⟨rfl,_⟩ | ⟨g2,cap2,cur2,rfl,_,hh2,_⟩
   · simp [Value.ownBlock] at hk
   · simp [Value.ownBlock] at hk hk1
     subst hk
     subst hk1
     rw [hh] at hh2
     simp at hh2
     exact hne hh2.2
theorem head_bad {x : RS} (h : x.e ≠ 0) : (headR x).1 = x:=by
 have ht : ∀ k,takeR x k = (x,⟨#[]⟩):=fun k=>by unfold takeR;rw [if_pos h]
 unfold headR bigR
 simp only [ht]
theorem fpar_err {R : List UInt8 → Int} (k : Nat) {x : RS} (f : Fl) (h : x.e ≠ 0) : fparL R (k + 1) x f = (noFl,x.e,x.a):=by
 unfold fparL addF
 rw [head_bad h,if_pos h]
 simp only
 rw [if_pos h]
theorem okR_wantG {x : RS} (h : okR x) (t : ByteArray) : okR (wantR x t).1:=by
 unfold wantR
 split
 · exact h
 · split
   · exact okR_fail h _ _
   · split
     · exact okR_fail h _ _
     · obtain ⟨h1,h2,h3⟩:=h
       refine ⟨?_,h2,h3⟩
       show x.n + t.size ≤ x.s.size
       omega
theorem set7 {w W : World} {H : Nat} (hb : Below w.heap.size w W) (hH : w.heap.size ≤ H) (a b c d e f g : Value) : Below w.heap.size w (((((((W.setCell ⟨H,0,none⟩ a).setCell ⟨H,1,none⟩ b).setCell ⟨H,2,none⟩ c).setCell ⟨H,3,none⟩ d).setCell ⟨H,4,none⟩ e).setCell ⟨H,5,none⟩ f).setCell ⟨H,6,none⟩ g):=
 ((((((hb.setCell hH _).setCell hH _).setCell hH _).setCell hH _).setCell hH _).setCell hH _).setCell hH _
theorem fpar_step {R : List UInt8 → Int} {k : Nat} {x y : RS} {f : Fl} {h : Nat} {t : ByteArray} (hH : headR x = (y,h,t)) :
 fparL R (k + 1) x f = if (addF R f x y h t).2.1 ≠ 0 then addF R f x y h t else if 128 ≤ h then (⟨(addF R f x y h t).1.ms,(addF R f x y h t).1.b,(addF R f x y h t).1.at_,(takeR y (leftR y)).2⟩,0,0) else fparL R k y (addF R f x y h t).1:=by
 rw [fparL,hH]
theorem failR_ok {y : RS} (h : y.e = 0) {c : Int} (hc : c ≠ 0) (p : Int) : failR y c p = ⟨y.s,y.n,y.b,c,p⟩:=by
 unfold failR
 rw [if_pos ⟨h,hc⟩]
def GInv (R : List UInt8 → Int) (s : ByteArray) (RES : Fl × Int × Int) (k : Nat) (x : RS) (f : Fl) : Prop:=
 okR x ∧ x.s = s ∧ x.b = 0 ∧ 4 * f.ms.length ≤ x.n ∧ has4 f.ms = decide (0 ≤ f.at_) ∧ f.sound = ⟨#[]⟩ ∧ ((x.e = 0 ∧ fparL R k x f = RES ∧ s.size + 1 ≤ k + x.n) ∨ (x.e ≠ 0 ∧ RES = (noFl,x.e,x.a)))
def measG (s : ByteArray) (H : Nat) (wr : World) : Nat:=match wr.cell? ⟨H,3,none⟩,wr.cell? ⟨H,1,none⟩ with
 | some (.int .i64 0),some (.int .i64 n)=>s.size + 1 - n.toNat
 | _,_=>0
theorem failR_z {y : RS} {c p : Int} (h : c = 0) : failR y c p = y:=by
 unfold failR
 rw [if_neg (fun h2=>h2.2 h)]
theorem measG_eq {w wr : World} {H : Nat} {x : RS} {f : Fl} {vm vb : Value} (s : ByteArray) (h : NF w H x f vm vb wr) (he : x.e = 0) : measG s H wr = s.size + 1 - x.n:=by
 obtain ⟨c1,_⟩:=live_of h.r 1 _ rfl
 obtain ⟨c3,_⟩:=live_of h.r 3 _ rfl
 unfold measG
 rw [c1,c3]
 simp [he]
theorem measG_bad {w wr : World} {H : Nat} {x : RS} {f : Fl} {vm vb : Value} (s : ByteArray) (h : NF w H x f vm vb wr) (he : x.e ≠ 0) : measG s H wr = 0:=by
 obtain ⟨c1,_⟩:=live_of h.r 1 _ rfl
 obtain ⟨c3,_⟩:=live_of h.r 3 _ rfl
 unfold measG
 rw [c1,c3]
 split
 · rename_i h1 _
   simp at h1
   exact absurd h1 he
 · rfl
theorem rest_eq (y : RS) (h : y.e = 0) (hn : y.n ≤ y.s.size) : (takeR y (leftR y)).2 = y.s.extract y.n y.s.size:=by
 have hl : leftR y = (y.s.size : Int) - y.n:=by unfold leftR;rw [if_neg (by simpa using h)]
 rw [hl]
 unfold takeR
 rw [if_neg (show ¬ y.e ≠ 0 by simpa using h),if_neg (by omega)]
 show y.s.extract y.n _ = _
 congr 1
 omega
theorem own7 {w : World} {C H : Nat} {t : TypeId} {z : Nat} {v : Value} {n : Nat} {cs : List Value} (ho : w.ownsRow C t z v n cs) (hC : H + 1 < C) (u a b c d e f g : Value) : Row ((((((((w.setCell ⟨H + 1,6,none⟩ u).setCell ⟨H,0,none⟩ a).setCell ⟨H,1,none⟩ b).setCell ⟨H,2,none⟩ c).setCell ⟨H,3,none⟩ d).setCell ⟨H,4,none⟩ e).setCell ⟨H,5,none⟩ f).setCell ⟨H,6,none⟩ g) v n cs:=by
 refine row_owns (orow_other ho fun j hj=>?_)
 have h1:=(orow_blk ho j hj).1
 have h2 : j ≠ H:=by omega
 have h3 : j ≠ H + 1:=by omega
 rw [Below.heap_setCell _ _ _ j h2,Below.heap_setCell _ _ _ j h2,Below.heap_setCell _ _ _ j h2,Below.heap_setCell _ _ _ j h2,Below.heap_setCell _ _ _ j h2,Below.heap_setCell _ _ _ j h2,Below.heap_setCell _ _ _ j h2,Below.heap_setCell _ _ _ j h3]
set_option maxRecDepth 100000 in
theorem r21parse_any (s : ByteArray) (fb : Int) (g : Bool) (w : World) (hs : s.size ≤ 1048576) :
 Calls Tryz.prog 10 #[.string s,.int .i64 fb,.bool g] w (RFParsePost (fparM (RM fb g) s) w):=by
 obtain ⟨RES,hRES⟩ : ∃ RES,RES = fparM (RM fb g) s:=⟨_,rfl⟩
 rw [← hRES]
 unfold fparM at hRES
 have kw : ∀ w,Calls Tryz.prog 43 #[.agg #[.string s,.int .i64 0,.int .i64 0,.int .i64 0,.int .i64 0],.string ⟨#[102,76,97,67]⟩] w fun e w'=>e = .returned (.tuple #[inV (wantR ⟨s,0,0,0,0⟩ letters).1,.bool (wantR ⟨s,0,0,0,0⟩ letters).2]) ∧ Below w.heap.size w w':=fun w=>rwant_any ⟨s,0,0,0,0⟩ letters w ⟨Nat.zero_le _,by simp only;omega,by simp only;omega⟩ (by decide)
 have hok0 : okR (wantR ⟨s,0,0,0,0⟩ letters).1:=okR_wantG ⟨Nat.zero_le _,by simp only;omega,by simp only;omega⟩ _
 have hs0:=wantR_s ⟨s,0,0,0,0⟩ letters
 have hb0:=wantR_b ⟨s,0,0,0,0⟩ letters
 generalize wantR ⟨s,0,0,0,0⟩ letters = X0 at *
 obtain ⟨⟨js,jn,jb,je,ja⟩,wt⟩:=X0
 simp only at kw hok0 hs0 hb0 hRES
 have hI0 : GInv (RM fb g) s RES (s.size + 1) ⟨js,jn,jb,je,ja⟩ fl0:=by
  refine ⟨hok0,hs0,hb0,Nat.zero_le _,by decide,rfl,?_⟩
  by_cases he : je = 0
  · exact .inl ⟨he,hRES.symm,by simp only;omega⟩
  · exact .inr ⟨he,by rw [hRES];exact fpar_err _ _ he⟩
 have inv : ∀ q : RS,inV q = .agg #[.string q.s,.int .i64 q.n,.int .i64 q.b,.int .i64 q.e,.int .i64 q.a]:=fun _=>rfl
 have kt:=fun (q : RS) (k : Int) (w : World) (h : okR q) (h0 : -4611686018427387904 ≤ k) (h1 : k ≤ 4611686018427387904)=>rtake_any q k w h h0 h1
 have kf:=fun (q : RS) (c p : Int) (w : World)=>rfail_any q c p w
 have kp:=fun (q : RS) (w : World) (h1 : okR q) (h2 : q.s.size ≤ 1048576) (h3 : q.e = 0)=>r19parse_any q fb g w h1 h2 h3
 unfold RParsePost at kp
 simp only [inv] at kw kt kf kp
 have kn:=fun (t : ByteArray) (w : World) (h : t.size ≤ 7)=>rnumber_any t w h
 obtain ⟨W,hW⟩ : ∃ W,W = (w.alloc (.cells #[.slice none 0 0,.string ⟨#[]⟩,.string ⟨#[]⟩,.int .i64 0,.slice none 0 0,.int .i64 0,.string ⟨#[]⟩] 47)).alloc (.cells #[.slice none 0 0,.string ⟨#[]⟩,.string ⟨#[]⟩,.int .i64 0,.slice none 0 0,.int .i64 (-1),.string ⟨#[]⟩] 47):=⟨_,rfl⟩
 have hz1 : (w.alloc (.cells #[.slice none 0 0,.string ⟨#[]⟩,.string ⟨#[]⟩,.int .i64 0,.slice none 0 0,.int .i64 0,.string ⟨#[]⟩] 47)).heap.size = w.heap.size + 1:=World.size_alloc _ _
 have hbW : Below w.heap.size w W:=by rw [hW];exact bal (bal (Below.refl _ _) _) _
 have hWs : W.heap.size = w.heap.size + 1 + 1:=by rw [hW];simp only [World.size_alloc]
 have hB0 : W.heap[w.heap.size]? = some (.cells #[.slice none 0 0,.string ⟨#[]⟩,.string ⟨#[]⟩,.int .i64 0,.slice none 0 0,.int .i64 0,.string ⟨#[]⟩] 47 (0,0)):=by rw [hW];exact (heap_alloc_old _ _ (by simp only [World.size_alloc];omega)).trans (heap_alloc_new w _)
 have hB1 : W.heap[w.heap.size + 1]? = some (.cells #[.slice none 0 0,.string ⟨#[]⟩,.string ⟨#[]⟩,.int .i64 0,.slice none 0 0,.int .i64 (-1),.string ⟨#[]⟩] 47 (0,0)):=by rw [hW,← hz1];exact heap_alloc_new _ _
 clear hz1
 unfold RFParsePost
 have KW:=Lib.hid kw
 have KT:=Lib.hid kt
 have KF:=Lib.hid kf
 have KP:=Lib.hid kp
 have KN:=Lib.hid kn
 have HBW:=Lib.hid hbW
 have HWS:=Lib.hid hWs
 have HB0:=Lib.hid hB0
 have HB1:=Lib.hid hB1
 have HI0:=Lib.hid hI0
 have HRES:=Lib.hid hRES
 clear kw kt kf kp kn hbW hWs hB0 hB1 hI0 hRES
 clear inv hok0 hs0 hb0
 go_enter Tryz.func10,Tryz.ntmps10
 go_wp2_with fail
 rw [← hW]
 clear hW
 with_reducible refine (KW.out _).mono ?_
 rintro e1 w1 ⟨rfl,hb1⟩
 go_wp2_with fail
 obtain ⟨W2,hh⟩ : ∃ W2,W2 = w1.alloc (.cells #[.string js,.int .i64 jn,.int .i64 jb,.int .i64 je,.int .i64 ja] 109):=⟨_,rfl⟩
 have hb2 : Below W.heap.size W W2:=by rw [hh];exact bal hb1 _
 have nf : NF w w1.heap.size ⟨js,jn,jb,je,ja⟩ fl0 (.slice none 0 0) (.slice none 0 0) W2:=by
  have hz:=hb1.size
  have hz2:=HWS.out
  exact ⟨bt HBW.out hb2,(hb2.block _ (by omega)).trans HB0.out,(hb2.block _ (by omega)).trans HB1.out,by omega,by rw [hh];exact heap_alloc_new _ _,World.ownsRow_nil _ _ _ _,World.ownsRow_nil _ _ _ _⟩
 rw [← hh]
 clear hh
 generalize w1.heap.size = H at *
 go_loopw [] (fun wr=>∃ (k : Nat) (x : RS) (f : Fl) (vm vb : Value),Hid (GInv (RM fb g) s RES k x f) ∧ NF w H x f vm vb wr) (fun wr=>measG s H wr)
 case atStart=>exact ⟨_,_,_,_,_,HI0.out,nf⟩
 case round=>
  obtain ⟨k,x,f,vm,vb,hI,nq⟩:=hrel
  obtain ⟨hok,hxs,hxb,hml,h4a,hsd,hcase⟩:=hI.out
  have nz:=nq.sz
  have nH:=nq.hH
  have nh1 : ¬ H = w.heap.size:=by omega
  have nh2 : ¬ w.heap.size = H:=by omega
  obtain ⟨av,cv,rfl⟩:=orow_form nq.om
  obtain ⟨an,cn,rfl⟩:=orow_form nq.on
  obtain ⟨r0,r0'⟩:=live_of nq.r 0 _ rfl
  obtain ⟨r1,r1'⟩:=live_of nq.r 1 _ rfl
  obtain ⟨r2,r2'⟩:=live_of nq.r 2 _ rfl
  obtain ⟨r3,r3'⟩:=live_of nq.r 3 _ rfl
  obtain ⟨r4,r4'⟩:=live_of nq.r 4 _ rfl
  have HXS:=Lib.hid hxs
  have HXB:=Lib.hid hxb
  clear hxs hxb
  by_cases hxe : x.e = 0
  · have d0 : (x.e == 0) = true:=by rw [beq_iff_eq];exact hxe
    have HMS:=Lib.hid (measG_eq s nq hxe)
    have hF : fparL (RM fb g) k x f = RES ∧ s.size + 1 ≤ k + x.n:=by rcases hcase with ⟨_,h⟩ | ⟨h,_⟩;exact h;exact absurd hxe h
    have hH : Hid (headR x = ((takeR (takeR (takeR x 1).1 3).1 (beN (bl (takeR (takeR x 1).1 3).2) : Nat)).1,beN (bl (takeR x 1).2),(takeR (takeR (takeR x 1).1 3).1 (beN (bl (takeR (takeR x 1).1 3).2) : Nat)).2)):=Lib.hid rfl
    have k1:=fun w=>KT.out x 1 w hok (by omega) (by omega)
    have hok1:=okR_take hok 1
    have ht1 : (takeR x 1).2.size ≤ 1:=takeR_size x 1
    have hs1 : (takeR x 1).1.s = s:=by rw [takeR_s];exact HXS.out
    generalize takeR x 1 = P1 at *
    obtain ⟨y1,t1⟩:=P1
    simp only at k1 hok1 ht1 hs1
    have k2:=fun w=>KT.out y1 3 w hok1 (by omega) (by omega)
    have hok2:=okR_take hok1 3
    have ht2 : (takeR y1 3).2.size ≤ 3:=takeR_size y1 3
    have hs2 : (takeR y1 3).1.s = s:=by rw [takeR_s];exact hs1
    generalize takeR y1 3 = P2 at *
    obtain ⟨y2,t2⟩:=P2
    simp only at k2 hok2 ht2 hs2
    have kn1:=fun w=>KN.out t1 w (by omega)
    have kn2:=fun w=>KN.out t2 w (by omega)
    have hN1 : beN (bl t1) < 256:=by refine Nat.lt_of_lt_of_le (beN_lt _) ?_;rw [bl_length];exact Nat.le_trans (Nat.pow_le_pow_right (by decide) ht1) (by decide)
    have hN2 : beN (bl t2) < 16777216:=by refine Nat.lt_of_lt_of_le (beN_lt _) ?_;rw [bl_length];exact Nat.le_trans (Nat.pow_le_pow_right (by decide) ht2) (by decide)
    generalize beN (bl t1) = hd at *
    generalize beN (bl t2) = N at *
    have k3:=fun w=>KT.out y2 (N : Int) w hok2 (by omega) (by omega)
    have hmv:=fun h=>(take_move y2 (N : Int) h).1
    have hok3:=okR_take hok2 (N : Int)
    have ht3 : (takeR y2 N).2.size ≤ 1048576:=Nat.le_trans (takeR_len _ _) (by rw [hs2];exact hs)
    have hs3 : (takeR y2 N).1.s = s:=by rw [takeR_s];exact hs2
    generalize takeR y2 (N : Int) = P3 at *
    obtain ⟨y3,t3⟩:=P3
    simp only at k3 hok3 ht3 hs3
    have hwN : IntKind.i64.wrap (N : Int) = N:=wi64 _ (by omega) (by omega)
    have hwd : IntKind.i64.wrap (hd : Int) = hd:=wi64 _ (by omega) (by omega)
    have hH : Hid (headR x = (y3,hd,t3)):=hH
    have K1:=Lib.hid k1
    have K2:=Lib.hid k2
    have K3:=Lib.hid k3
    have KN1:=Lib.hid kn1
    have KN2:=Lib.hid kn2
    have HOK3:=Lib.hid hok3
    have HF:=Lib.hid hF
    have HOK:=Lib.hid hok
    have H4A:=Lib.hid h4a
    have HML:=Lib.hid hml
    have HXE:=Lib.hid hxe
    have HS3:=Lib.hid hs3
    have HMV:=Lib.hid hmv
    clear k1 k2 k3 kn1 kn2 hok3 hF hok h4a hml hxe hs3 hmv
    clear hok1 hok2 ht1 ht2 hs1 hs2 hcase hI hN2
    go_wp2_with fail
    with_reducible refine (K1.out _).mono ?_
    rintro e2 wa ⟨rfl,hba⟩
    go_wp2_with fail
    with_reducible refine (K2.out _).mono ?_
    rintro e3 wb ⟨rfl,hbb⟩
    have hX:=(hbb.block wa.heap.size (by rw [World.size_alloc];omega)).trans (heap_alloc_new wa _)
    obtain ⟨x0,x0'⟩:=live_of hX 0 _ rfl
    obtain ⟨x1,x1'⟩:=live_of hX 1 _ rfl
    obtain ⟨x2,x2'⟩:=live_of hX 2 _ rfl
    obtain ⟨x3,x3'⟩:=live_of hX 3 _ rfl
    obtain ⟨x4,x4'⟩:=live_of hX 4 _ rfl
    have hc3 : Below wr.heap.size wr (st5 wb wa.heap.size (.string y2.s) (.int .i64 y2.n) (.int .i64 y2.b) (.int .i64 y2.e) (.int .i64 y2.a)):=st5_below (bt (bal hba _) hbb) hba.size _ _ _ _ _
    have hX3:=st5_blk hX (.string y2.s) (.int .i64 y2.n) (.int .i64 y2.b) (.int .i64 y2.e) (.int .i64 y2.a)
    go_upto_region 8 with fail
    obtain ⟨W3,hh⟩ : ∃ W3,W3 = st5 wb wa.heap.size (.string y2.s) (.int .i64 y2.n) (.int .i64 y2.b) (.int .i64 y2.e) (.int .i64 y2.a):=⟨_,rfl⟩
    rw [← hh] at hc3 hX3
    unfold st5 at hh
    rw [← hh]
    have hlt:=hba.size
    clear hh hX x0 x1 x2 x3 x4 x0' x1' x2' x3' x4' hbb hba K1 K2 r0 r1 r2 r3 r4 r0' r1' r2' r3' r4'
    obtain ⟨x0,x0'⟩:=live_of hX3 0 _ rfl
    obtain ⟨x1,x1'⟩:=live_of hX3 1 _ rfl
    obtain ⟨x2,x2'⟩:=live_of hX3 2 _ rfl
    obtain ⟨x3,x3'⟩:=live_of hX3 3 _ rfl
    obtain ⟨x4,x4'⟩:=live_of hX3 4 _ rfl
    have HX3:=Lib.hid hX3
    go_region_with (first | (go_at_call 45;refine (KN2.out _).mono ?_;rintro e4 wc ⟨rfl,rfl⟩) | (go_at_call 44;refine (K3.out _).mono ?_;rintro e5 wd ⟨rfl,hbd⟩;have hX4:=(hbd.block wa.heap.size (Array.getElem?_eq_some_iff.1 HX3.out).1).trans HX3.out;obtain ⟨x0,x0'⟩:=live_of hX4 0 _ rfl;obtain ⟨x1,x1'⟩:=live_of hX4 1 _ rfl;obtain ⟨x2,x2'⟩:=live_of hX4 2 _ rfl;obtain ⟨x3,x3'⟩:=live_of hX4 3 _ rfl;obtain ⟨x4,x4'⟩:=live_of hX4 4 _ rfl))
    all_goals
     have hc5 : Below wr.heap.size wr (st5 wd wa.heap.size (.string y3.s) (.int .i64 y3.n) (.int .i64 y3.b) (.int .i64 y3.e) (.int .i64 y3.a)):=st5_below (bt hc3 (bt (Below.refl W3.heap.size W3).drew hbd)) hlt _ _ _ _ _
     have hX5:=st5_blk hX4 (.string y3.s) (.int .i64 y3.n) (.int .i64 y3.b) (.int .i64 y3.e) (.int .i64 y3.a)
     obtain ⟨W5,hh⟩ : ∃ W5,W5 = st5 wd wa.heap.size (.string y3.s) (.int .i64 y3.n) (.int .i64 y3.b) (.int .i64 y3.e) (.int .i64 y3.a):=⟨_,rfl⟩
     go_upto_region 9 with fail
     rw [← hh] at hc5 hX5
     unfold st5 at hh
     rw [← hh]
     clear hh hX4 HX3 x0 x1 x2 x3 x4 x0' x1' x2' x3' x4' hbd hc3 hX3
     have n5:=nq.keep hc5
     obtain ⟨x0,x0'⟩:=live_of hX5 0 _ rfl
     obtain ⟨x1,x1'⟩:=live_of hX5 1 _ rfl
     obtain ⟨x2,x2'⟩:=live_of hX5 2 _ rfl
     obtain ⟨x3,x3'⟩:=live_of hX5 3 _ rfl
     obtain ⟨x4,x4'⟩:=live_of hX5 4 _ rfl
     obtain ⟨r0,r0'⟩:=live_of n5.r 0 _ rfl
     obtain ⟨r1,r1'⟩:=live_of n5.r 1 _ rfl
     obtain ⟨r2,r2'⟩:=live_of n5.r 2 _ rfl
     obtain ⟨r3,r3'⟩:=live_of n5.r 3 _ rfl
     obtain ⟨r4,r4'⟩:=live_of n5.r 4 _ rfl
     have ne1 : ¬ H = wa.heap.size:=by omega
     have ne2 : ¬ wa.heap.size = H:=by omega
     clear hc5 hX5 nq
     obtain ⟨k,rfl⟩ : ∃ k',k = k' + 1:=by
      have h1:=HF.out.2
      have h2:=HOK.out.1
      rw [HXS.out] at h2
      exact ⟨k - 1,by omega⟩
     have hF2:=HF.out.1
     rw [fpar_step hH.out] at hF2
     have HF2:=Lib.hid hF2
     clear hF2
     by_cases he3 : y3.e = 0
     · have d2 : (y3.e != 0) = false:=by rw [bne_eq_false_iff_eq];exact he3
       obtain ⟨ys,yn,yb,ye,ya⟩:=y3
       simp only at he3
       subst he3
       have hhd:=head_ok (x:=x) (by rw [hH.out]) HOK.out.1
       rw [hH.out] at hhd
       obtain ⟨hq0,ha2,ha3,hq5,hq6,hq7⟩:=hhd
       simp only [adv,RS.mk.injEq] at ha2 ha3
       obtain ⟨hq1,hyn,hyb,hq2,hq3⟩:=ha2
       rw [HXB.out] at hyb
       have hys : ys = s:=HS3.out
       have hmv:=HMV.out rfl
       simp only at hmv
       have hsz:=HXS.out
       have hy2 : y2.n = x.n + 4:=by omega
       have hyl : yn ≤ s.size:=by rw [← hsz];omega
       have h4l:=HML.out
       have HYN:=Lib.hid hyn
       have HYB:=Lib.hid hyb
       have HYS:=Lib.hid hys
       have HMV2:=Lib.hid hmv
       have HY2:=Lib.hid hy2
       have HYL:=Lib.hid hyl
       clear hyn hyb hys hmv hy2 hyl
       clear ha3 hsz hq0 hq1 hq2 hq3 hq5 hq6 hq7
       obtain ⟨kd,hkd⟩ : ∃ kd : Nat,kd = hd % 128:=⟨_,rfl⟩
       have hk7 : kd < 128:=by omega
       have hrm : (hd : Int).tmod 128 = (kd : Int):=by rw [Int.tmod_eq_emod_of_nonneg (by omega)];omega
       have HKD:=Lib.hid hkd
       clear hkd
       have n6:=n5.setr ⟨ys,yn,yb,0,ya⟩
       go_wp2_with fail
       obtain ⟨W6,hh⟩ : ∃ W6,W6 = st5 W5 H (.string ys) (.int .i64 yn) (.int .i64 yb) (.int .i64 0) (.int .i64 ya):=⟨_,rfl⟩
       rw [← hh] at n6
       unfold st5 at hh
       rw [← hh]
       clear hh n5 x0 x1 x2 x3 x4 x0' x1' x2' x3' x4' r0 r1 r2 r3 r4 r0' r1' r2' r3' r4'
       have hom6:=n6.om
       have hsz6:=n6.sz
       have n7:=n6.keep (bal (Below.refl W6.heap.size W6) (.cells #[.int .i64 (kd : Int),.string t3] 116))
       have km:=rmay_any (.slice av f.ms.length cv) f.ms ⟨kd,t3⟩ (W6.alloc (.cells #[.int .i64 (kd : Int),.string t3] 116)) (row_owns n7.om) (by have:=HYL.out;have:=HYN.out;omega) (by simp only;omega)
       rw [H4A.out] at km
       refine (KN1.out _).mono ?_
       rintro e6 wf ⟨rfl,rfl⟩
       obtain ⟨f0,f0'⟩:=live_of n7.fl 0 _ rfl
       obtain ⟨f1,f1'⟩:=live_of n7.fl 1 _ rfl
       obtain ⟨f2,f2'⟩:=live_of n7.fl 2 _ rfl
       obtain ⟨f3,f3'⟩:=live_of n7.fl 3 _ rfl
       obtain ⟨f4,f4'⟩:=live_of n7.fl 4 _ rfl
       obtain ⟨f5,f5'⟩:=live_of n7.fl 5 _ rfl
       obtain ⟨f6,f6'⟩:=live_of n7.fl 6 _ rfl
       go_wp2_with fail
       refine km.mono ?_
       rintro e7 w8 ⟨rfl,hb8⟩
       have n8:=n7.keep hb8
       have hMb:=(hb8.block W6.heap.size (by rw [World.size_alloc];omega)).trans (heap_alloc_new W6 _)
       have hc8:=hb8.size
       rw [World.size_alloc] at hc8
       have hav : some W6.heap.size ≠ (Value.slice av f.ms.length cv).ownBlock:=fun e=>by have:=(orow_blk hom6 _ e.symm).2;omega
       have hH6:=hsz6
       obtain ⟨m0,m0'⟩:=(Live.fresh W6 #[.int .i64 (kd : Int),.string t3] 116 0 _ rfl).keep hb8
       obtain ⟨m1,m1'⟩:=(Live.fresh W6 #[.int .i64 (kd : Int),.string t3] 116 1 _ rfl).keep hb8
       clear f0 f1 f2 f3 f4 f5 f6 f0' f1' f2' f3' f4' f5' f6' n7 hb8 km
       obtain ⟨f0,f0'⟩:=live_of n8.fl 0 _ rfl
       obtain ⟨f1,f1'⟩:=live_of n8.fl 1 _ rfl
       obtain ⟨f2,f2'⟩:=live_of n8.fl 2 _ rfl
       obtain ⟨f3,f3'⟩:=live_of n8.fl 3 _ rfl
       obtain ⟨f4,f4'⟩:=live_of n8.fl 4 _ rfl
       obtain ⟨f5,f5'⟩:=live_of n8.fl 5 _ rfl
       obtain ⟨f6,f6'⟩:=live_of n8.fl 6 _ rfl
       obtain ⟨r0,r0'⟩:=live_of n8.r 0 _ rfl
       obtain ⟨r1,r1'⟩:=live_of n8.r 1 _ rfl
       obtain ⟨r2,r2'⟩:=live_of n8.r 2 _ rfl
       obtain ⟨r3,r3'⟩:=live_of n8.r 3 _ rfl
       obtain ⟨r4,r4'⟩:=live_of n8.r 4 _ rfl
       cases hst : standM f.ms.length ⟨kd,t3⟩ (decide (0 ≤ f.at_)) with
       | false=>
        have ha : addF (RM fb g) f x ⟨ys,yn,yb,0,ya⟩ hd t3 = (noFl,1,(x.n : Int)):=by
         unfold addF
         rw [← HKD.out]
         rw [if_neg (by simp),hst,if_pos rfl]
         rw [HXB.out]
         simp
        have hR : Hid (RES = (noFl,1,(x.n : Int))):=Lib.hid (by rw [← HF2.out,ha,if_pos (by simp)])
        have kff : ∀ w,Calls Tryz.prog 47 #[.agg #[.string ys,.int .i64 yn,.int .i64 yb,.int .i64 0,.int .i64 ya],.int .i64 1,.int .i64 (x.n : Int)] w fun e w'=>e = .returned (.agg #[.string ys,.int .i64 yn,.int .i64 yb,.int .i64 1,.int .i64 (x.n : Int)]) ∧ Below w.heap.size w w':=fun w=>by
         have:=KF.out ⟨ys,yn,yb,0,ya⟩ 1 (x.n : Int) w
         rw [failR_ok rfl (by decide)] at this
         exact this
        have KFF:=Lib.hid kff
        clear kff
        clear ha HF2
        clear hst
        go_wp2_with fail
        with_reducible refine (KFF.out _).mono ?_
        rintro e8 w9 ⟨rfl,hb9⟩
        have n9:=n8.keep hb9
        clear r0 r1 r2 r3 r4 r0' r1' r2' r3' r4' hb9
        obtain ⟨r0,r0'⟩:=live_of n9.r 0 _ rfl
        obtain ⟨r1,r1'⟩:=live_of n9.r 1 _ rfl
        obtain ⟨r2,r2'⟩:=live_of n9.r 2 _ rfl
        obtain ⟨r3,r3'⟩:=live_of n9.r 3 _ rfl
        obtain ⟨r4,r4'⟩:=live_of n9.r 4 _ rfl
        obtain ⟨q0,q0'⟩:=live_of n9.z 0 _ rfl
        obtain ⟨q1,q1'⟩:=live_of n9.z 1 _ rfl
        obtain ⟨q2,q2'⟩:=live_of n9.z 2 _ rfl
        obtain ⟨q3,q3'⟩:=live_of n9.z 3 _ rfl
        obtain ⟨q4,q4'⟩:=live_of n9.z 4 _ rfl
        obtain ⟨q5,q5'⟩:=live_of n9.z 5 _ rfl
        obtain ⟨q6,q6'⟩:=live_of n9.z 6 _ rfl
        go_wp2_with fail
        go_region
        all_goals
         go_wp2_with fail
         refine bodyPost_ret (v:=.tuple #[.agg #[.slice none 0 0,.string ⟨#[]⟩,.string ⟨#[]⟩,.int .i64 0,.slice none 0 0,.int .i64 0,.string ⟨#[]⟩],.int .i64 1,.int .i64 (x.n : Int)]) (by simp [results,Tryz.results10,go_sem,q0,q1,q2,q3,q4,q5,q6,q0',q1',q2',q3',q4',q5',q6']) rfl ?_
         exact ⟨(set7 (set5 n9.bel (by omega) _ _ _ _ _) (Nat.le_refl _) _ _ _ _ _ _ _).drew,.slice none 0 0,.slice none 0 0,by rw [hR.out];rfl,by rw [hR.out];exact ⟨Row.nil _,Row.nil _⟩⟩
       | true=>
        by_cases hm4 : 4096 ≤ f.ms.length
        · have dm : (f.ms.length : Int) ≥ 4096:=by omega
          have ha : addF (RM fb g) f x ⟨ys,yn,yb,0,ya⟩ hd t3 = (noFl,4,(x.n : Int)):=by
           unfold addF
           rw [← HKD.out]
           rw [if_neg (by simp),hst,if_neg (by decide),if_pos hm4]
           rw [HXB.out]
           simp
          have hR : Hid (RES = (noFl,4,(x.n : Int))):=Lib.hid (by rw [← HF2.out,ha,if_pos (by simp)])
          have kff : ∀ w,Calls Tryz.prog 47 #[.agg #[.string ys,.int .i64 yn,.int .i64 yb,.int .i64 0,.int .i64 ya],.int .i64 4,.int .i64 (x.n : Int)] w fun e w'=>e = .returned (.agg #[.string ys,.int .i64 yn,.int .i64 yb,.int .i64 4,.int .i64 (x.n : Int)]) ∧ Below w.heap.size w w':=fun w=>by
           have:=KF.out ⟨ys,yn,yb,0,ya⟩ 4 (x.n : Int) w
           rw [failR_ok rfl (by decide)] at this
           exact this
          have KFF:=Lib.hid kff
          clear kff
          clear ha HF2
          clear hst hm4
          go_wp2_with fail
          with_reducible refine (KFF.out _).mono ?_
          rintro e8 w9 ⟨rfl,hb9⟩
          have n9:=n8.keep hb9
          clear r0 r1 r2 r3 r4 r0' r1' r2' r3' r4' hb9
          obtain ⟨r0,r0'⟩:=live_of n9.r 0 _ rfl
          obtain ⟨r1,r1'⟩:=live_of n9.r 1 _ rfl
          obtain ⟨r2,r2'⟩:=live_of n9.r 2 _ rfl
          obtain ⟨r3,r3'⟩:=live_of n9.r 3 _ rfl
          obtain ⟨r4,r4'⟩:=live_of n9.r 4 _ rfl
          obtain ⟨q0,q0'⟩:=live_of n9.z 0 _ rfl
          obtain ⟨q1,q1'⟩:=live_of n9.z 1 _ rfl
          obtain ⟨q2,q2'⟩:=live_of n9.z 2 _ rfl
          obtain ⟨q3,q3'⟩:=live_of n9.z 3 _ rfl
          obtain ⟨q4,q4'⟩:=live_of n9.z 4 _ rfl
          obtain ⟨q5,q5'⟩:=live_of n9.z 5 _ rfl
          obtain ⟨q6,q6'⟩:=live_of n9.z 6 _ rfl
          go_wp2_with fail
          go_region
          all_goals
           go_wp2_with fail
           refine bodyPost_ret (v:=.tuple #[.agg #[.slice none 0 0,.string ⟨#[]⟩,.string ⟨#[]⟩,.int .i64 0,.slice none 0 0,.int .i64 0,.string ⟨#[]⟩],.int .i64 4,.int .i64 (x.n : Int)]) (by simp [results,Tryz.results10,go_sem,q0,q1,q2,q3,q4,q5,q6,q0',q1',q2',q3',q4',q5',q6']) rfl ?_
           exact ⟨(set7 (set5 n9.bel (by omega) _ _ _ _ _) (Nat.le_refl _) _ _ _ _ _ _ _).drew,.slice none 0 0,.slice none 0 0,by rw [hR.out];rfl,by rw [hR.out];exact ⟨Row.nil _,Row.nil _⟩⟩
        · have dm : ¬ (f.ms.length : Int) ≥ 4096:=by omega
          by_cases h4 : kd = 4
          · have d4 : ((kd : Int) == 4) = true:=by rw [beq_iff_eq];omega
            have kpp : ∀ w,Calls Tryz.prog 48 #[.agg #[.string t3,.int .i64 0,.int .i64 (y2.n : Int),.int .i64 0,.int .i64 0],.bool false,.int .i64 fb,.bool g] w _:=fun w=>KP.out ⟨t3,0,y2.n,0,0⟩ w ⟨Nat.zero_le _,by simp only;omega,by have:=HY2.out;have:=HYN.out;have:=HYL.out;simp only;omega⟩ ht3 rfl
            have hpn : (parseR (RM fb g) false ⟨t3,0,y2.n,0,0⟩).2 = none → (parseR (RM fb g) false ⟨t3,0,y2.n,0,0⟩).1.e ≠ 0:=fun h=>parse_none h
            have hps : ∀ b,(parseR (RM fb g) false ⟨t3,0,y2.n,0,0⟩).2 = some b → (parseR (RM fb g) false ⟨t3,0,y2.n,0,0⟩).1.e = 0:=fun b h=>parse_some h
            have ha : addF (RM fb g) f x ⟨ys,yn,yb,0,ya⟩ hd t3 = match (parseR (RM fb g) false ⟨t3,0,y2.n,0,0⟩).2 with
             | none=>(noFl,(parseR (RM fb g) false ⟨t3,0,y2.n,0,0⟩).1.e,(parseR (RM fb g) false ⟨t3,0,y2.n,0,0⟩).1.a)
             | some b=>(⟨f.ms ++ [⟨4,⟨#[]⟩⟩],b,f.ms.length,f.sound⟩,0,0):=by
             unfold addF
             rw [← HKD.out]
             rw [if_neg (by simp),hst,if_neg (by decide),if_neg hm4,if_pos h4]
             simp only
             rw [show yb + yn - t3.size = y2.n by have:=HYB.out;have:=HMV2.out;omega]
             cases (parseR (RM fb g) false ⟨t3,0,y2.n,0,0⟩).2 <;> rfl
            have hF3:=HF2.out
            rw [ha] at hF3
            generalize parseR (RM fb g) false ⟨t3,0,y2.n,0,0⟩ = PR at *
            obtain ⟨⟨ps,pn,pb,pe,pa⟩,ob⟩:=PR
            simp only at kpp hpn hps hF3
            have hG4 : has4 (f.ms ++ [⟨kd,⟨#[]⟩⟩]) = decide (0 ≤ (f.ms.length : Int)):=by rw [has4_snoc];simp [h4]
            have KPP:=Lib.hid kpp
            have HG4:=Lib.hid hG4
            clear kpp hG4
            clear ha HF2 hst hm4 H4A
            go_wp2_with fail
            refine (KPP.out _).mono ?_
            rintro e9 w9 ⟨hb9,nt,nc,v,LN,rfl,hov,hob⟩
            obtain ⟨ov,oc,rfl⟩:=orow_form hov
            have hMb9:=(hb9.block W6.heap.size (by omega)).trans hMb
            have hc9:=hb9.size
            have n10:=(n8.keep hb9).keep (bal (bal (Below.refl w9.heap.size w9) (.cells #[.string ps,.int .i64 pn,.int .i64 pb,.int .i64 pe,.int .i64 pa] 109)) (.cells #[.string ⟨#[]⟩,.string nt,.int .i64 nc,.slice ov LN.length oc] 45))
            clear n8 hb9 hMb r0 r1 r2 r3 r4 r0' r1' r2' r3' r4'
            obtain ⟨r0,r0'⟩:=live_of n10.r 0 _ rfl
            obtain ⟨r1,r1'⟩:=live_of n10.r 1 _ rfl
            obtain ⟨r2,r2'⟩:=live_of n10.r 2 _ rfl
            obtain ⟨r3,r3'⟩:=live_of n10.r 3 _ rfl
            obtain ⟨r4,r4'⟩:=live_of n10.r 4 _ rfl
            have i0:=((Live.fresh w9 #[.string ps,.int .i64 pn,.int .i64 pb,.int .i64 pe,.int .i64 pa] 109 0 _ rfl).alloc (.cells #[.string ⟨#[]⟩,.string nt,.int .i64 nc,.slice ov LN.length oc] 45)).1
            have i1:=((Live.fresh w9 #[.string ps,.int .i64 pn,.int .i64 pb,.int .i64 pe,.int .i64 pa] 109 1 _ rfl).alloc (.cells #[.string ⟨#[]⟩,.string nt,.int .i64 nc,.slice ov LN.length oc] 45)).1
            have i2:=((Live.fresh w9 #[.string ps,.int .i64 pn,.int .i64 pb,.int .i64 pe,.int .i64 pa] 109 2 _ rfl).alloc (.cells #[.string ⟨#[]⟩,.string nt,.int .i64 nc,.slice ov LN.length oc] 45)).1
            have i3:=((Live.fresh w9 #[.string ps,.int .i64 pn,.int .i64 pb,.int .i64 pe,.int .i64 pa] 109 3 _ rfl).alloc (.cells #[.string ⟨#[]⟩,.string nt,.int .i64 nc,.slice ov LN.length oc] 45)).1
            have i4:=((Live.fresh w9 #[.string ps,.int .i64 pn,.int .i64 pb,.int .i64 pe,.int .i64 pa] 109 4 _ rfl).alloc (.cells #[.string ⟨#[]⟩,.string nt,.int .i64 nc,.slice ov LN.length oc] 45)).1
            cases ob with
            | none=>
             have hpe:=hpn rfl
             simp only at hpe hF3
             rw [if_pos (by exact hpe)] at hF3
             have HR7 : Hid (RES = (noFl,pe,pa)):=Lib.hid hF3.symm
             have HOK8 : Hid (okR ⟨ys,yn,yb,pe,pa⟩):=Lib.hid HOK3.out
             clear hpn hps hob hF3 h4
             have kff : ∀ w,Calls Tryz.prog 47 #[.agg #[.string ys,.int .i64 yn,.int .i64 yb,.int .i64 0,.int .i64 ya],.int .i64 pe,.int .i64 pa] w fun e w'=>e = .returned (.agg #[.string ys,.int .i64 yn,.int .i64 yb,.int .i64 pe,.int .i64 pa]) ∧ Below w.heap.size w w':=fun w=>by
              have:=KF.out ⟨ys,yn,yb,0,ya⟩ pe pa w
              rw [failR_ok rfl hpe] at this
              exact this
             have KFF:=Lib.hid kff
             clear kff
             have HPE:=Lib.hid hpe
             clear hpe
             go_wp2_with fail
             with_reducible refine (KFF.out _).mono ?_
             rintro e11 w11 ⟨rfl,hb11⟩
             have n11:=n10.keep hb11
             have hBb : w11.heap[w9.heap.size + 1]? = some (.cells #[.string ⟨#[]⟩,.string nt,.int .i64 nc,.slice ov LN.length oc] 45 (0,0)):=(hb11.block _ (by rw [World.size_alloc,World.size_alloc];omega)).trans (by rw [← World.size_alloc w9 (.cells #[.string ps,.int .i64 pn,.int .i64 pb,.int .i64 pe,.int .i64 pa] 109)];exact heap_alloc_new _ _)
             have hMc : w11.heap[W6.heap.size]? = some (.cells #[.int .i64 (kd : Int),.string t3] 116 (0,0)):=(hb11.block _ (by rw [World.size_alloc,World.size_alloc];omega)).trans ((heap_alloc_old _ _ (by rw [World.size_alloc];omega)).trans ((heap_alloc_old _ _ (by omega)).trans hMb9))
             have hnv : w11.ownsRow w8.heap.size 42 3 (.slice ov LN.length oc) LN.length (ntcells LN):=orow_bel (orow_bel hov (bal (bal (Below.refl w9.heap.size w9) (.cells #[.string ps,.int .i64 pn,.int .i64 pb,.int .i64 pe,.int .i64 pa] 109)) (.cells #[.string ⟨#[]⟩,.string nt,.int .i64 nc,.slice ov LN.length oc] 45))) hb11
             have hc11:=hb11.size
             rw [World.size_alloc,World.size_alloc] at hc11
             clear n10 hb11 hMb9 hov r0 r1 r2 r3 r4 r0' r1' r2' r3' r4' i0 i1 i2 i3 i4
             obtain ⟨r0,r0'⟩:=live_of n11.r 0 _ rfl
             obtain ⟨r1,r1'⟩:=live_of n11.r 1 _ rfl
             obtain ⟨r2,r2'⟩:=live_of n11.r 2 _ rfl
             obtain ⟨r3,r3'⟩:=live_of n11.r 3 _ rfl
             obtain ⟨r4,r4'⟩:=live_of n11.r 4 _ rfl
             have n12:=n11.setr ⟨ys,yn,yb,pe,pa⟩
             have hB2:=(st5_other w11 H (.string ys) (.int .i64 yn) (.int .i64 yb) (.int .i64 pe) (.int .i64 pa) (w9.heap.size + 1) (by omega)).trans hBb
             have hM2:=(st5_other w11 H (.string ys) (.int .i64 yn) (.int .i64 yb) (.int .i64 pe) (.int .i64 pa) W6.heap.size (by omega)).trans hMc
             have hn2:=orow_other hnv fun q hq=>st5_other w11 H (.string ys) (.int .i64 yn) (.int .i64 yb) (.int .i64 pe) (.int .i64 pa) q (by have:=(orow_blk hnv q hq).1;omega)
             go_upto_region 19 with fail
             obtain ⟨W12,hh⟩ : ∃ W12,W12 = st5 w11 H (.string ys) (.int .i64 yn) (.int .i64 yb) (.int .i64 pe) (.int .i64 pa):=⟨_,rfl⟩
             rw [← hh] at n12 hB2 hM2 hn2
             unfold st5 at hh
             rw [← hh]
             clear hh n11 hBb hMc hnv r0 r1 r2 r3 r4 r0' r1' r2' r3' r4' f0 f1 f2 f3 f4 f5 f6 f0' f1' f2' f3' f4' f5' f6'
             obtain ⟨f0,f0'⟩:=live_of n12.fl 0 _ rfl
             obtain ⟨f1,f1'⟩:=live_of n12.fl 1 _ rfl
             obtain ⟨f2,f2'⟩:=live_of n12.fl 2 _ rfl
             obtain ⟨f3,f3'⟩:=live_of n12.fl 3 _ rfl
             obtain ⟨f4,f4'⟩:=live_of n12.fl 4 _ rfl
             obtain ⟨f5,f5'⟩:=live_of n12.fl 5 _ rfl
             obtain ⟨f6,f6'⟩:=live_of n12.fl 6 _ rfl
             obtain ⟨b0,b0'⟩:=live_of hB2 0 _ rfl
             obtain ⟨b1,b1'⟩:=live_of hB2 1 _ rfl
             obtain ⟨b2,b2'⟩:=live_of hB2 2 _ rfl
             obtain ⟨b3,b3'⟩:=live_of hB2 3 _ rfl
             obtain ⟨m0,m0'⟩:=live_of hM2 0 _ rfl
             obtain ⟨m1,m1'⟩:=live_of hM2 1 _ rfl
             have hn3:=orow_mono hn2 (show H + 1 ≤ w8.heap.size by omega)
             have n13:=n12.note ⟨nt,nc,LN⟩ (.slice ov LN.length oc) (f.ms.length : Int) hn3
             have ho13 : ∀ q,q ≠ w.heap.size + 1 → (((((W12.setCell ⟨w.heap.size + 1,1,none⟩ (.string ⟨#[]⟩)).setCell ⟨w.heap.size + 1,2,none⟩ (.string nt)).setCell ⟨w.heap.size + 1,3,none⟩ (.int .i64 nc)).setCell ⟨w.heap.size + 1,4,none⟩ (.slice ov LN.length oc)).setCell ⟨w.heap.size + 1,5,none⟩ (.int .i64 (f.ms.length : Int))).heap[q]? = W12.heap[q]?:=fun q hq=>by rw [Below.heap_setCell _ _ _ q hq,Below.heap_setCell _ _ _ q hq,Below.heap_setCell _ _ _ q hq,Below.heap_setCell _ _ _ q hq,Below.heap_setCell _ _ _ q hq]
             have hM3:=(ho13 W6.heap.size (by omega)).trans hM2
             have hM4:=Go.Lib.heap_setCell_same (i:=1) hM3 (.string ⟨#[]⟩)
             have n14:=n13.other (w':=(((((W12.setCell ⟨w.heap.size + 1,1,none⟩ (.string ⟨#[]⟩)).setCell ⟨w.heap.size + 1,2,none⟩ (.string nt)).setCell ⟨w.heap.size + 1,3,none⟩ (.int .i64 nc)).setCell ⟨w.heap.size + 1,4,none⟩ (.slice ov LN.length oc)).setCell ⟨w.heap.size + 1,5,none⟩ (.int .i64 (f.ms.length : Int))).setCell ⟨W6.heap.size,1,none⟩ (.string ⟨#[]⟩)) W6.heap.size (by omega) (fun q hq=>Below.heap_setCell _ _ _ q hq) (n13.bel.setCell (by simp;omega) _) hav (fun e=>by have:=(orow_blk hn2 _ e.symm).1;omega)
             have ng1 : ¬ w.heap.size + 1 = W6.heap.size:=by omega
             have ng2 : ¬ W6.heap.size = w.heap.size + 1:=by omega
             have ng3 : ¬ w9.heap.size + 1 = w.heap.size + 1:=by omega
             have ng4 : ¬ w.heap.size + 1 = w9.heap.size + 1:=by omega
             go_upto_region 22 with fail
             obtain ⟨W14,hh⟩ : ∃ W14,W14 = (((((W12.setCell ⟨w.heap.size + 1,1,none⟩ (.string ⟨#[]⟩)).setCell ⟨w.heap.size + 1,2,none⟩ (.string nt)).setCell ⟨w.heap.size + 1,3,none⟩ (.int .i64 nc)).setCell ⟨w.heap.size + 1,4,none⟩ (.slice ov LN.length oc)).setCell ⟨w.heap.size + 1,5,none⟩ (.int .i64 (f.ms.length : Int))).setCell ⟨W6.heap.size,1,none⟩ (.string ⟨#[]⟩):=⟨_,rfl⟩
             rw [← hh] at n14 hM4
             rw [← hh]
             have hM5 : W14.heap[W6.heap.size]? = some (.cells #[.int .i64 (kd : Int),.string ⟨#[]⟩] 116 (0,0)):=by rw [hM4];simp
             clear hh n12 n13 ho13 hM3 hM4 hM2 hB2 hn2 hn3 f0 f1 f2 f3 f4 f5 f6 f0' f1' f2' f3' f4' f5' f6' b0 b1 b2 b3 b0' b1' b2' b3' m0 m0' m1 m1'
             obtain ⟨f0,f0'⟩:=live_of n14.fl 0 _ rfl
             obtain ⟨f1,f1'⟩:=live_of n14.fl 1 _ rfl
             obtain ⟨f2,f2'⟩:=live_of n14.fl 2 _ rfl
             obtain ⟨f3,f3'⟩:=live_of n14.fl 3 _ rfl
             obtain ⟨f4,f4'⟩:=live_of n14.fl 4 _ rfl
             obtain ⟨f5,f5'⟩:=live_of n14.fl 5 _ rfl
             obtain ⟨f6,f6'⟩:=live_of n14.fl 6 _ rfl
             obtain ⟨r0,r0'⟩:=live_of n14.r 0 _ rfl
             obtain ⟨r1,r1'⟩:=live_of n14.r 1 _ rfl
             obtain ⟨r2,r2'⟩:=live_of n14.r 2 _ rfl
             obtain ⟨r3,r3'⟩:=live_of n14.r 3 _ rfl
             obtain ⟨r4,r4'⟩:=live_of n14.r 4 _ rfl
             obtain ⟨m0,m0'⟩:=live_of hM5 0 _ rfl
             obtain ⟨m1,m1'⟩:=live_of hM5 1 _ rfl
             have hz3 : f.ms.length < 70368744177664:=by have:=HYL.out;have:=HYN.out;omega
             have hz5 : (f.ms.length + 1) * 24 ≤ 140737488355328:=by have:=HYL.out;have:=HYN.out;omega
             have hO1 : W14.ownsRow (H + 1) 116 2 (.slice av f.ms.length cv) f.ms.length (rmcells f.ms):=n14.om
             have hs8:=n14.sz
             have hgr:=(Array.getElem?_eq_some_iff.1 n14.r).1
             have HZ3:=Lib.hid hz3
             have HZ5:=Lib.hid hz5
             have HO1:=Lib.hid hO1
             clear hz3 hz5 hO1
             go_wp2_with (at_builtin;go_loud (refine wpList_push1 rfl _ _ 40 116 rfl Tryz.underlying40 (.agg #[.int .i64 0,.string ⟨#[]⟩]) 2 24 infoRM rfl (by decide) W14 (H + 1) (.slice av f.ms.length cv) f.ms.length (rmcells f.ms) rfl HO1.out #[.int .i64 (kd : Nat),.string ⟨#[]⟩] rfl (by simp [Value.oneCell']) (by rfl) HZ3.out HZ5.out (by omega) ?_);go_loud (intro v7 w7 hown7 hb7 hk7);go_loud (obtain ⟨av7,cv7,rfl⟩:=orow_form hown7);go_loud (have hB7:=(hb7.block (w.heap.size + 1) (by omega)).trans n14.fl);go_loud (obtain ⟨c0,c0'⟩:=live_of hB7 0 _ rfl))
             have n9:=n14.push ⟨kd,(⟨#[]⟩ : ByteArray)⟩ hown7 hb7 hk7 (own_ne n14.om n14.on (by decide))
             obtain ⟨W9,hh⟩ : ∃ W9,W9 = w7.setCell ⟨w.heap.size + 1,0,none⟩ (.slice av7 (f.ms.length + 1) cv7):=⟨_,rfl⟩
             rw [← hh] at n9 ⊢
             clear hh hown7 hb7 hk7 hB7 c0 c0' n14
             clear r0 r1 r2 r3 r4 r0' r1' r2' r3' r4' f0 f1 f2 f3 f4 f5 f6 f0' f1' f2' f3' f4' f5' f6' m0 m0' m1 m1'
             obtain ⟨r0,r0'⟩:=live_of n9.r 0 _ rfl
             obtain ⟨r1,r1'⟩:=live_of n9.r 1 _ rfl
             obtain ⟨r2,r2'⟩:=live_of n9.r 2 _ rfl
             obtain ⟨r3,r3'⟩:=live_of n9.r 3 _ rfl
             obtain ⟨r4,r4'⟩:=live_of n9.r 4 _ rfl
             obtain ⟨f0,f0'⟩:=live_of n9.fl 0 _ rfl
             obtain ⟨f1,f1'⟩:=live_of n9.fl 1 _ rfl
             obtain ⟨f2,f2'⟩:=live_of n9.fl 2 _ rfl
             obtain ⟨f3,f3'⟩:=live_of n9.fl 3 _ rfl
             obtain ⟨f4,f4'⟩:=live_of n9.fl 4 _ rfl
             obtain ⟨f5,f5'⟩:=live_of n9.fl 5 _ rfl
             obtain ⟨f6,f6'⟩:=live_of n9.fl 6 _ rfl
             obtain ⟨q0,q0'⟩:=live_of n9.z 0 _ rfl
             obtain ⟨q1,q1'⟩:=live_of n9.z 1 _ rfl
             obtain ⟨q2,q2'⟩:=live_of n9.z 2 _ rfl
             obtain ⟨q3,q3'⟩:=live_of n9.z 3 _ rfl
             obtain ⟨q4,q4'⟩:=live_of n9.z 4 _ rfl
             obtain ⟨q5,q5'⟩:=live_of n9.z 5 _ rfl
             obtain ⟨q6,q6'⟩:=live_of n9.z 6 _ rfl
             have nh3 : ¬ H = w.heap.size + 1:=by omega
             have nh4 : ¬ w.heap.size + 1 = H:=by omega
             have nh5 : ¬ w.heap.size + 1 = w.heap.size:=by omega
             have nh6 : ¬ w.heap.size = w.heap.size + 1:=by omega
             refine (KN1.out _).mono ?_
             rintro e9 wg ⟨rfl,rfl⟩
             have d1 : (pe != 0) = true:=by rw [bne_iff_ne];exact HPE.out
             by_cases hl : 128 ≤ hd
             · have dl : (hd : Int) ≥ 128:=by omega
               clear hl
               go_wp2_with fail
               go_region
               all_goals
                go_wp2_with fail
                refine bodyPost_ret (v:=.tuple #[.agg #[.slice none 0 0,.string ⟨#[]⟩,.string ⟨#[]⟩,.int .i64 0,.slice none 0 0,.int .i64 0,.string ⟨#[]⟩],.int .i64 pe,.int .i64 pa]) (by simp [results,Tryz.results10,go_sem,q0,q1,q2,q3,q4,q5,q6,q0',q1',q2',q3',q4',q5',q6']) rfl ?_
                exact ⟨(set7 n9.bel (Nat.le_refl _) _ _ _ _ _ _ _).drew,.slice none 0 0,.slice none 0 0,by rw [HR7.out];rfl,by rw [HR7.out];exact ⟨Row.nil _,Row.nil _⟩⟩
             · have dl : ¬ (hd : Int) ≥ 128:=by omega
               clear hl
               go_wp2_with fail
               go_roundw
               case rel=>exact ⟨k,⟨ys,yn,yb,pe,pa⟩,⟨f.ms ++ [⟨kd,⟨#[]⟩⟩],⟨nt,nc,LN⟩,f.ms.length,f.sound⟩,_,_,Lib.hid ⟨HOK8.out,HYS.out,HYB.out,by have:=HYN.out;simp only [List.length_append,List.length_cons,List.length_nil];omega,HG4.out,hsd,.inr ⟨HPE.out,HR7.out⟩⟩,n9⟩
               case measure=>rw [measG_bad s n9 HPE.out,HMS.out];have:=HYN.out;have:=HYL.out;omega
            | some b=>
             have hpe:=hps b rfl
             have hbe : b = ⟨nt,nc,LN⟩:=by obtain ⟨e1,e2,e3⟩:=hob b rfl;cases b;simp only at e1 e2 e3;rw [e1,e2,e3]
             subst hbe
             simp only at hpe hF3
             rw [if_neg (by simp),← h4] at hF3
             try simp only at hF3
             have HF3:=Lib.hid hF3
             clear hpn hps hob hF3 h4
             have kff : ∀ w,Calls Tryz.prog 47 #[.agg #[.string ys,.int .i64 yn,.int .i64 yb,.int .i64 0,.int .i64 ya],.int .i64 pe,.int .i64 pa] w fun e w'=>e = .returned (.agg #[.string ys,.int .i64 yn,.int .i64 yb,.int .i64 0,.int .i64 ya]) ∧ Below w.heap.size w w':=fun w=>by
              have:=KF.out ⟨ys,yn,yb,0,ya⟩ pe pa w
              rw [failR_z hpe] at this
              exact this
             have KFF:=Lib.hid kff
             clear kff
             clear hpe
             go_wp2_with fail
             with_reducible refine (KFF.out _).mono ?_
             rintro e11 w11 ⟨rfl,hb11⟩
             have n11:=n10.keep hb11
             have hBb : w11.heap[w9.heap.size + 1]? = some (.cells #[.string ⟨#[]⟩,.string nt,.int .i64 nc,.slice ov LN.length oc] 45 (0,0)):=(hb11.block _ (by rw [World.size_alloc,World.size_alloc];omega)).trans (by rw [← World.size_alloc w9 (.cells #[.string ps,.int .i64 pn,.int .i64 pb,.int .i64 pe,.int .i64 pa] 109)];exact heap_alloc_new _ _)
             have hMc : w11.heap[W6.heap.size]? = some (.cells #[.int .i64 (kd : Int),.string t3] 116 (0,0)):=(hb11.block _ (by rw [World.size_alloc,World.size_alloc];omega)).trans ((heap_alloc_old _ _ (by rw [World.size_alloc];omega)).trans ((heap_alloc_old _ _ (by omega)).trans hMb9))
             have hnv : w11.ownsRow w8.heap.size 42 3 (.slice ov LN.length oc) LN.length (ntcells LN):=orow_bel (orow_bel hov (bal (bal (Below.refl w9.heap.size w9) (.cells #[.string ps,.int .i64 pn,.int .i64 pb,.int .i64 pe,.int .i64 pa] 109)) (.cells #[.string ⟨#[]⟩,.string nt,.int .i64 nc,.slice ov LN.length oc] 45))) hb11
             have hc11:=hb11.size
             rw [World.size_alloc,World.size_alloc] at hc11
             clear n10 hb11 hMb9 hov r0 r1 r2 r3 r4 r0' r1' r2' r3' r4' i0 i1 i2 i3 i4
             obtain ⟨r0,r0'⟩:=live_of n11.r 0 _ rfl
             obtain ⟨r1,r1'⟩:=live_of n11.r 1 _ rfl
             obtain ⟨r2,r2'⟩:=live_of n11.r 2 _ rfl
             obtain ⟨r3,r3'⟩:=live_of n11.r 3 _ rfl
             obtain ⟨r4,r4'⟩:=live_of n11.r 4 _ rfl
             have n12:=n11.setr ⟨ys,yn,yb,0,ya⟩
             have hB2:=(st5_other w11 H (.string ys) (.int .i64 yn) (.int .i64 yb) (.int .i64 0) (.int .i64 ya) (w9.heap.size + 1) (by omega)).trans hBb
             have hM2:=(st5_other w11 H (.string ys) (.int .i64 yn) (.int .i64 yb) (.int .i64 0) (.int .i64 ya) W6.heap.size (by omega)).trans hMc
             have hn2:=orow_other hnv fun q hq=>st5_other w11 H (.string ys) (.int .i64 yn) (.int .i64 yb) (.int .i64 0) (.int .i64 ya) q (by have:=(orow_blk hnv q hq).1;omega)
             go_upto_region 19 with fail
             obtain ⟨W12,hh⟩ : ∃ W12,W12 = st5 w11 H (.string ys) (.int .i64 yn) (.int .i64 yb) (.int .i64 0) (.int .i64 ya):=⟨_,rfl⟩
             rw [← hh] at n12 hB2 hM2 hn2
             unfold st5 at hh
             rw [← hh]
             clear hh n11 hBb hMc hnv r0 r1 r2 r3 r4 r0' r1' r2' r3' r4' f0 f1 f2 f3 f4 f5 f6 f0' f1' f2' f3' f4' f5' f6'
             obtain ⟨f0,f0'⟩:=live_of n12.fl 0 _ rfl
             obtain ⟨f1,f1'⟩:=live_of n12.fl 1 _ rfl
             obtain ⟨f2,f2'⟩:=live_of n12.fl 2 _ rfl
             obtain ⟨f3,f3'⟩:=live_of n12.fl 3 _ rfl
             obtain ⟨f4,f4'⟩:=live_of n12.fl 4 _ rfl
             obtain ⟨f5,f5'⟩:=live_of n12.fl 5 _ rfl
             obtain ⟨f6,f6'⟩:=live_of n12.fl 6 _ rfl
             obtain ⟨b0,b0'⟩:=live_of hB2 0 _ rfl
             obtain ⟨b1,b1'⟩:=live_of hB2 1 _ rfl
             obtain ⟨b2,b2'⟩:=live_of hB2 2 _ rfl
             obtain ⟨b3,b3'⟩:=live_of hB2 3 _ rfl
             obtain ⟨m0,m0'⟩:=live_of hM2 0 _ rfl
             obtain ⟨m1,m1'⟩:=live_of hM2 1 _ rfl
             have hn3:=orow_mono hn2 (show H + 1 ≤ w8.heap.size by omega)
             have n13:=n12.note ⟨nt,nc,LN⟩ (.slice ov LN.length oc) (f.ms.length : Int) hn3
             have ho13 : ∀ q,q ≠ w.heap.size + 1 → (((((W12.setCell ⟨w.heap.size + 1,1,none⟩ (.string ⟨#[]⟩)).setCell ⟨w.heap.size + 1,2,none⟩ (.string nt)).setCell ⟨w.heap.size + 1,3,none⟩ (.int .i64 nc)).setCell ⟨w.heap.size + 1,4,none⟩ (.slice ov LN.length oc)).setCell ⟨w.heap.size + 1,5,none⟩ (.int .i64 (f.ms.length : Int))).heap[q]? = W12.heap[q]?:=fun q hq=>by rw [Below.heap_setCell _ _ _ q hq,Below.heap_setCell _ _ _ q hq,Below.heap_setCell _ _ _ q hq,Below.heap_setCell _ _ _ q hq,Below.heap_setCell _ _ _ q hq]
             have hM3:=(ho13 W6.heap.size (by omega)).trans hM2
             have hM4:=Go.Lib.heap_setCell_same (i:=1) hM3 (.string ⟨#[]⟩)
             have n14:=n13.other (w':=(((((W12.setCell ⟨w.heap.size + 1,1,none⟩ (.string ⟨#[]⟩)).setCell ⟨w.heap.size + 1,2,none⟩ (.string nt)).setCell ⟨w.heap.size + 1,3,none⟩ (.int .i64 nc)).setCell ⟨w.heap.size + 1,4,none⟩ (.slice ov LN.length oc)).setCell ⟨w.heap.size + 1,5,none⟩ (.int .i64 (f.ms.length : Int))).setCell ⟨W6.heap.size,1,none⟩ (.string ⟨#[]⟩)) W6.heap.size (by omega) (fun q hq=>Below.heap_setCell _ _ _ q hq) (n13.bel.setCell (by simp;omega) _) hav (fun e=>by have:=(orow_blk hn2 _ e.symm).1;omega)
             have ng1 : ¬ w.heap.size + 1 = W6.heap.size:=by omega
             have ng2 : ¬ W6.heap.size = w.heap.size + 1:=by omega
             have ng3 : ¬ w9.heap.size + 1 = w.heap.size + 1:=by omega
             have ng4 : ¬ w.heap.size + 1 = w9.heap.size + 1:=by omega
             go_upto_region 22 with fail
             obtain ⟨W14,hh⟩ : ∃ W14,W14 = (((((W12.setCell ⟨w.heap.size + 1,1,none⟩ (.string ⟨#[]⟩)).setCell ⟨w.heap.size + 1,2,none⟩ (.string nt)).setCell ⟨w.heap.size + 1,3,none⟩ (.int .i64 nc)).setCell ⟨w.heap.size + 1,4,none⟩ (.slice ov LN.length oc)).setCell ⟨w.heap.size + 1,5,none⟩ (.int .i64 (f.ms.length : Int))).setCell ⟨W6.heap.size,1,none⟩ (.string ⟨#[]⟩):=⟨_,rfl⟩
             rw [← hh] at n14 hM4
             rw [← hh]
             have hM5 : W14.heap[W6.heap.size]? = some (.cells #[.int .i64 (kd : Int),.string ⟨#[]⟩] 116 (0,0)):=by rw [hM4];simp
             clear hh n12 n13 ho13 hM3 hM4 hM2 hB2 hn2 hn3 f0 f1 f2 f3 f4 f5 f6 f0' f1' f2' f3' f4' f5' f6' b0 b1 b2 b3 b0' b1' b2' b3' m0 m0' m1 m1'
             obtain ⟨f0,f0'⟩:=live_of n14.fl 0 _ rfl
             obtain ⟨f1,f1'⟩:=live_of n14.fl 1 _ rfl
             obtain ⟨f2,f2'⟩:=live_of n14.fl 2 _ rfl
             obtain ⟨f3,f3'⟩:=live_of n14.fl 3 _ rfl
             obtain ⟨f4,f4'⟩:=live_of n14.fl 4 _ rfl
             obtain ⟨f5,f5'⟩:=live_of n14.fl 5 _ rfl
             obtain ⟨f6,f6'⟩:=live_of n14.fl 6 _ rfl
             obtain ⟨r0,r0'⟩:=live_of n14.r 0 _ rfl
             obtain ⟨r1,r1'⟩:=live_of n14.r 1 _ rfl
             obtain ⟨r2,r2'⟩:=live_of n14.r 2 _ rfl
             obtain ⟨r3,r3'⟩:=live_of n14.r 3 _ rfl
             obtain ⟨r4,r4'⟩:=live_of n14.r 4 _ rfl
             obtain ⟨m0,m0'⟩:=live_of hM5 0 _ rfl
             obtain ⟨m1,m1'⟩:=live_of hM5 1 _ rfl
             have hz3 : f.ms.length < 70368744177664:=by have:=HYL.out;have:=HYN.out;omega
             have hz5 : (f.ms.length + 1) * 24 ≤ 140737488355328:=by have:=HYL.out;have:=HYN.out;omega
             have hO1 : W14.ownsRow (H + 1) 116 2 (.slice av f.ms.length cv) f.ms.length (rmcells f.ms):=n14.om
             have hs8:=n14.sz
             have hgr:=(Array.getElem?_eq_some_iff.1 n14.r).1
             have HZ3:=Lib.hid hz3
             have HZ5:=Lib.hid hz5
             have HO1:=Lib.hid hO1
             clear hz3 hz5 hO1
             go_wp2_with (at_builtin;go_loud (refine wpList_push1 rfl _ _ 40 116 rfl Tryz.underlying40 (.agg #[.int .i64 0,.string ⟨#[]⟩]) 2 24 infoRM rfl (by decide) W14 (H + 1) (.slice av f.ms.length cv) f.ms.length (rmcells f.ms) rfl HO1.out #[.int .i64 (kd : Nat),.string ⟨#[]⟩] rfl (by simp [Value.oneCell']) (by rfl) HZ3.out HZ5.out (by omega) ?_);go_loud (intro v7 w7 hown7 hb7 hk7);go_loud (obtain ⟨av7,cv7,rfl⟩:=orow_form hown7);go_loud (have hB7:=(hb7.block (w.heap.size + 1) (by omega)).trans n14.fl);go_loud (obtain ⟨c0,c0'⟩:=live_of hB7 0 _ rfl))
             have n9:=n14.push ⟨kd,(⟨#[]⟩ : ByteArray)⟩ hown7 hb7 hk7 (own_ne n14.om n14.on (by decide))
             obtain ⟨W9,hh⟩ : ∃ W9,W9 = w7.setCell ⟨w.heap.size + 1,0,none⟩ (.slice av7 (f.ms.length + 1) cv7):=⟨_,rfl⟩
             rw [← hh] at n9 ⊢
             clear hh hown7 hb7 hk7 hB7 c0 c0' n14
             clear r0 r1 r2 r3 r4 r0' r1' r2' r3' r4' f0 f1 f2 f3 f4 f5 f6 f0' f1' f2' f3' f4' f5' f6' m0 m0' m1 m1'
             obtain ⟨r0,r0'⟩:=live_of n9.r 0 _ rfl
             obtain ⟨r1,r1'⟩:=live_of n9.r 1 _ rfl
             obtain ⟨r2,r2'⟩:=live_of n9.r 2 _ rfl
             obtain ⟨r3,r3'⟩:=live_of n9.r 3 _ rfl
             obtain ⟨r4,r4'⟩:=live_of n9.r 4 _ rfl
             obtain ⟨f0,f0'⟩:=live_of n9.fl 0 _ rfl
             obtain ⟨f1,f1'⟩:=live_of n9.fl 1 _ rfl
             obtain ⟨f2,f2'⟩:=live_of n9.fl 2 _ rfl
             obtain ⟨f3,f3'⟩:=live_of n9.fl 3 _ rfl
             obtain ⟨f4,f4'⟩:=live_of n9.fl 4 _ rfl
             obtain ⟨f5,f5'⟩:=live_of n9.fl 5 _ rfl
             obtain ⟨f6,f6'⟩:=live_of n9.fl 6 _ rfl
             obtain ⟨q0,q0'⟩:=live_of n9.z 0 _ rfl
             obtain ⟨q1,q1'⟩:=live_of n9.z 1 _ rfl
             obtain ⟨q2,q2'⟩:=live_of n9.z 2 _ rfl
             obtain ⟨q3,q3'⟩:=live_of n9.z 3 _ rfl
             obtain ⟨q4,q4'⟩:=live_of n9.z 4 _ rfl
             obtain ⟨q5,q5'⟩:=live_of n9.z 5 _ rfl
             obtain ⟨q6,q6'⟩:=live_of n9.z 6 _ rfl
             have nh3 : ¬ H = w.heap.size + 1:=by omega
             have nh4 : ¬ w.heap.size + 1 = H:=by omega
             have nh5 : ¬ w.heap.size + 1 = w.heap.size:=by omega
             have nh6 : ¬ w.heap.size = w.heap.size + 1:=by omega
             refine (KN1.out _).mono ?_
             rintro e9 wg ⟨rfl,rfl⟩
             by_cases hl : 128 ≤ hd
             · have dl : (hd : Int) ≥ 128:=by omega
               have hF3:=HF3.out
               rw [if_pos hl] at hF3
               have hre:=rest_eq ⟨ys,yn,yb,0,ya⟩ rfl (by simp only;rw [HYS.out];exact HYL.out)
               rw [hre] at hF3
               simp only at hF3
               rw [HYS.out] at hF3
               have HR9:=Lib.hid hF3
               have hz0 : (0 : Int) ≤ (yn : Int):=by omega
               have hz1 : (yn : Int) ≤ (s.size : Int):=by have:=HYL.out;omega
               clear hF3 hre hl
               go_wp2_with fail
               refine bodyPost_ret (v:=.tuple #[.agg #[.slice av7 (f.ms.length + 1) cv7,.string ⟨#[]⟩,.string nt,.int .i64 nc,.slice ov LN.length oc,.int .i64 (f.ms.length : Int),.string (s.extract yn s.size)],.int .i64 0,.int .i64 0]) (by simp [results,Tryz.results10,go_sem,q0,q1,q2,q3,q4,q5,q6,q0',q1',q2',q3',q4',q5',q6']) rfl ?_
               have hom:=n9.om
               have hon:=n9.on
               rw [List.length_append] at hom
               exact ⟨set7 (n9.bel.setCell (by simp) _) (Nat.le_refl _) _ _ _ _ _ _ _,.slice av7 (f.ms.length + 1) cv7,.slice ov LN.length oc,by rw [← HR9.out];rfl,by rw [← HR9.out];exact ⟨by simp only;rw [List.length_append];exact own7 hom (by omega) _ _ _ _ _ _ _ _,own7 hon (by omega) _ _ _ _ _ _ _ _⟩⟩
             · have dl : ¬ (hd : Int) ≥ 128:=by omega
               have hF3:=HF3.out
               rw [if_neg hl] at hF3
               have HR9:=Lib.hid hF3
               clear hF3 hl
               go_wp2_with fail
               go_roundw
               case rel=>exact ⟨k,⟨ys,yn,yb,0,ya⟩,⟨f.ms ++ [⟨kd,(⟨#[]⟩ : ByteArray)⟩],(⟨nt,nc,LN⟩ : Bk),(f.ms.length : Int),f.sound⟩,_,_,Lib.hid ⟨HOK3.out,HYS.out,HYB.out,by have:=HYN.out;simp only [List.length_append,List.length_cons,List.length_nil];omega,HG4.out,hsd,.inl ⟨rfl,HR9.out,by have:=HF.out.2;have:=HYN.out;simp only;omega⟩⟩,n9⟩
               case measure=>rw [measG_eq s n9 rfl,HMS.out];have:=HYN.out;have:=HYL.out;simp only;omega
          · have d4 : ((kd : Int) == 4) = false:=by rw [beq_eq_false_iff_ne];omega
            have ha : addF (RM fb g) f x ⟨ys,yn,yb,0,ya⟩ hd t3 = (⟨f.ms ++ [⟨kd,t3⟩],f.b,f.at_,f.sound⟩,0,0):=by
             unfold addF
             rw [← HKD.out]
             rw [if_neg (by simp),hst,if_neg (by decide),if_neg hm4,if_neg h4]
            have hF3:=HF2.out
            rw [ha,if_neg (by simp)] at hF3
            simp only at hF3
            have hG4 : has4 (f.ms ++ [⟨kd,t3⟩]) = decide (0 ≤ f.at_):=by rw [has4_snoc,H4A.out];simp [h4]
            have HF3:=Lib.hid hF3
            have HG4:=Lib.hid hG4
            clear hF3 hG4
            clear ha HF2 hst hm4 h4 H4A
            have hz3 : f.ms.length < 70368744177664:=by have:=HYL.out;have:=HYN.out;omega
            have hz5 : (f.ms.length + 1) * 24 ≤ 140737488355328:=by have:=HYL.out;have:=HYN.out;omega
            have hO1:=n8.om
            have hs8:=n8.sz
            have hgr:=(Array.getElem?_eq_some_iff.1 n8.r).1
            have HZ3:=Lib.hid hz3
            have HZ5:=Lib.hid hz5
            have HO1:=Lib.hid hO1
            clear hz3 hz5 hO1
            go_wp2_with (at_builtin;go_loud (refine wpList_push1 rfl _ _ 40 116 rfl Tryz.underlying40 (.agg #[.int .i64 0,.string ⟨#[]⟩]) 2 24 infoRM rfl (by decide) w8 (H + 1) (.slice av f.ms.length cv) f.ms.length (rmcells f.ms) rfl HO1.out #[.int .i64 (kd : Nat),.string t3] rfl (by simp [Value.oneCell']) (by rfl) HZ3.out HZ5.out (by omega) ?_);go_loud (intro v7 w7 hown7 hb7 hk7);go_loud (obtain ⟨av7,cv7,rfl⟩:=orow_form hown7);go_loud (have hB7:=(hb7.block (w.heap.size + 1) (by omega)).trans n8.fl);go_loud (obtain ⟨c0,c0'⟩:=live_of hB7 0 _ rfl))
            have n9:=n8.push ⟨kd,t3⟩ hown7 hb7 hk7 (own_ne n8.om n8.on (by decide))
            obtain ⟨W9,hh⟩ : ∃ W9,W9 = w7.setCell ⟨w.heap.size + 1,0,none⟩ (.slice av7 (f.ms.length + 1) cv7):=⟨_,rfl⟩
            rw [← hh] at n9 ⊢
            clear hh hown7 hb7 hk7 hB7 c0 c0' n8
            clear r0 r1 r2 r3 r4 r0' r1' r2' r3' r4' f0 f1 f2 f3 f4 f5 f6 f0' f1' f2' f3' f4' f5' f6' m0 m0' m1 m1'
            obtain ⟨r0,r0'⟩:=live_of n9.r 0 _ rfl
            obtain ⟨r1,r1'⟩:=live_of n9.r 1 _ rfl
            obtain ⟨r2,r2'⟩:=live_of n9.r 2 _ rfl
            obtain ⟨r3,r3'⟩:=live_of n9.r 3 _ rfl
            obtain ⟨r4,r4'⟩:=live_of n9.r 4 _ rfl
            obtain ⟨f0,f0'⟩:=live_of n9.fl 0 _ rfl
            obtain ⟨f1,f1'⟩:=live_of n9.fl 1 _ rfl
            obtain ⟨f2,f2'⟩:=live_of n9.fl 2 _ rfl
            obtain ⟨f3,f3'⟩:=live_of n9.fl 3 _ rfl
            obtain ⟨f4,f4'⟩:=live_of n9.fl 4 _ rfl
            obtain ⟨f5,f5'⟩:=live_of n9.fl 5 _ rfl
            obtain ⟨f6,f6'⟩:=live_of n9.fl 6 _ rfl
            obtain ⟨q0,q0'⟩:=live_of n9.z 0 _ rfl
            obtain ⟨q1,q1'⟩:=live_of n9.z 1 _ rfl
            obtain ⟨q2,q2'⟩:=live_of n9.z 2 _ rfl
            obtain ⟨q3,q3'⟩:=live_of n9.z 3 _ rfl
            obtain ⟨q4,q4'⟩:=live_of n9.z 4 _ rfl
            obtain ⟨q5,q5'⟩:=live_of n9.z 5 _ rfl
            obtain ⟨q6,q6'⟩:=live_of n9.z 6 _ rfl
            have nh3 : ¬ H = w.heap.size + 1:=by omega
            have nh4 : ¬ w.heap.size + 1 = H:=by omega
            have nh5 : ¬ w.heap.size + 1 = w.heap.size:=by omega
            have nh6 : ¬ w.heap.size = w.heap.size + 1:=by omega
            refine (KN1.out _).mono ?_
            rintro e9 wg ⟨rfl,rfl⟩
            by_cases hl : 128 ≤ hd
            · have dl : (hd : Int) ≥ 128:=by omega
              have hF3:=HF3.out
              rw [if_pos hl] at hF3
              have hre:=rest_eq ⟨ys,yn,yb,0,ya⟩ rfl (by simp only;rw [HYS.out];exact HYL.out)
              rw [hre] at hF3
              simp only at hF3
              rw [HYS.out] at hF3
              have HR9:=Lib.hid hF3
              have hz0 : (0 : Int) ≤ (yn : Int):=by omega
              have hz1 : (yn : Int) ≤ (s.size : Int):=by have:=HYL.out;omega
              clear hF3 hre hl
              go_wp2_with fail
              refine bodyPost_ret (v:=.tuple #[.agg #[.slice av7 (f.ms.length + 1) cv7,.string ⟨#[]⟩,.string f.b.vt,.int .i64 f.b.vs,.slice an f.b.ns.length cn,.int .i64 f.at_,.string (s.extract yn s.size)],.int .i64 0,.int .i64 0]) (by simp [results,Tryz.results10,go_sem,q0,q1,q2,q3,q4,q5,q6,q0',q1',q2',q3',q4',q5',q6']) rfl ?_
              have hom:=n9.om
              have hon:=n9.on
              rw [List.length_append] at hom
              exact ⟨set7 (n9.bel.setCell (by simp) _) (Nat.le_refl _) _ _ _ _ _ _ _,.slice av7 (f.ms.length + 1) cv7,.slice an f.b.ns.length cn,by rw [← HR9.out];rfl,by rw [← HR9.out];exact ⟨by simp only;rw [List.length_append];exact own7 hom (by omega) _ _ _ _ _ _ _ _,own7 hon (by omega) _ _ _ _ _ _ _ _⟩⟩
            · have dl : ¬ (hd : Int) ≥ 128:=by omega
              have hF3:=HF3.out
              rw [if_neg hl] at hF3
              have HR9:=Lib.hid hF3
              clear hF3 hl
              go_wp2_with fail
              go_roundw
              case rel=>exact ⟨k,⟨ys,yn,yb,0,ya⟩,⟨f.ms ++ [⟨kd,t3⟩],f.b,f.at_,f.sound⟩,_,_,Lib.hid ⟨HOK3.out,HYS.out,HYB.out,by have:=HYN.out;simp only [List.length_append,List.length_cons,List.length_nil];omega,HG4.out,hsd,.inl ⟨rfl,HR9.out,by have:=HF.out.2;have:=HYN.out;simp only;omega⟩⟩,n9⟩
              case measure=>rw [measG_eq s n9 rfl,HMS.out];have:=HYN.out;have:=HYL.out;simp only;omega
     · have d2 : (y3.e != 0) = true:=by rw [bne_iff_ne];exact he3
       have hR : Hid (RES = (noFl,y3.e,y3.a)):=Lib.hid (by
        rw [← HF2.out]
        have ha : addF (RM fb g) f x y3 hd t3 = (noFl,y3.e,y3.a):=by unfold addF;rw [if_pos he3]
        rw [ha,if_pos he3])
       clear he3 HF2
       obtain ⟨q0,q0'⟩:=live_of n5.z 0 _ rfl
       obtain ⟨q1,q1'⟩:=live_of n5.z 1 _ rfl
       obtain ⟨q2,q2'⟩:=live_of n5.z 2 _ rfl
       obtain ⟨q3,q3'⟩:=live_of n5.z 3 _ rfl
       obtain ⟨q4,q4'⟩:=live_of n5.z 4 _ rfl
       obtain ⟨q5,q5'⟩:=live_of n5.z 5 _ rfl
       obtain ⟨q6,q6'⟩:=live_of n5.z 6 _ rfl
       go_wp2_with fail
       go_region
       all_goals
        go_wp2_with fail
        refine bodyPost_ret (v:=.tuple #[.agg #[.slice none 0 0,.string ⟨#[]⟩,.string ⟨#[]⟩,.int .i64 0,.slice none 0 0,.int .i64 0,.string ⟨#[]⟩],.int .i64 y3.e,.int .i64 y3.a]) (by simp [results,Tryz.results10,go_sem,q0,q1,q2,q3,q4,q5,q6,q0',q1',q2',q3',q4',q5',q6']) rfl ?_
        exact ⟨(set7 (set5 n5.bel (by omega) _ _ _ _ _) (Nat.le_refl _) _ _ _ _ _ _ _).drew,.slice none 0 0,.slice none 0 0,by rw [hR.out];rfl,by rw [hR.out];exact ⟨Row.nil _,Row.nil _⟩⟩
  · have hR : Hid (RES = (noFl,x.e,x.a)):=Lib.hid (by rcases hcase with ⟨h,_⟩ | ⟨_,h⟩;exact absurd h hxe;exact h)
    have d0 : (x.e == 0) = false:=by rw [beq_eq_false_iff_ne];exact hxe
    have d1 : (x.e != 0) = true:=by rw [bne_iff_ne];exact hxe
    clear hcase hI hxe
    obtain ⟨q0,q0'⟩:=live_of nq.z 0 _ rfl
    obtain ⟨q1,q1'⟩:=live_of nq.z 1 _ rfl
    obtain ⟨q2,q2'⟩:=live_of nq.z 2 _ rfl
    obtain ⟨q3,q3'⟩:=live_of nq.z 3 _ rfl
    obtain ⟨q4,q4'⟩:=live_of nq.z 4 _ rfl
    obtain ⟨q5,q5'⟩:=live_of nq.z 5 _ rfl
    obtain ⟨q6,q6'⟩:=live_of nq.z 6 _ rfl
    go_wp2_with fail
    go_region
    all_goals
     go_wp2_with fail
     refine bodyPost_ret (v:=.tuple #[.agg #[.slice none 0 0,.string ⟨#[]⟩,.string ⟨#[]⟩,.int .i64 0,.slice none 0 0,.int .i64 0,.string ⟨#[]⟩],.int .i64 x.e,.int .i64 x.a]) (by simp [results,Tryz.results10,go_sem,q0,q1,q2,q3,q4,q5,q6,q0',q1',q2',q3',q4',q5',q6']) rfl ?_
     exact ⟨(set7 nq.bel (Nat.le_refl _) _ _ _ _ _ _ _).drew,.slice none 0 0,.slice none 0 0,by rw [hR.out];rfl,by rw [hR.out];exact ⟨Row.nil _,Row.nil _⟩⟩
end Go.Proofs.YtmfjmgjhfplijaaGreatDoor
