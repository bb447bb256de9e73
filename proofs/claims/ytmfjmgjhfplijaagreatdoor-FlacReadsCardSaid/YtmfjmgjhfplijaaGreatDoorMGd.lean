/- Gd -/
import Derived.Test.YtmfjmgjhfplijaaGreatDoorMFe
import Derived.Test.YtmfjmgjhfplijaaGreatDoorMGc
set_option linter.unusedVariables false
set_option linter.unusedSimpArgs false
set_option maxHeartbeats 16000000
namespace Go.Proofs.YtmfjmgjhfplijaaGreatDoor
open Go.RowKit
noncomputable def parse2R (R : List UInt8 → Int) (x : RS) : RS × Option Bk:=
 let p:=textR R (sizedR x).1 (sizedR x).2.1 (sizedR x).2.2
 let c:=countR p.1
 let l:=notesR R c.2 c.1 []
 let v:=endR false l.1
 (v,if v.e ≠ 0 then none else some ⟨p.2.1,p.2.2,l.2⟩)
theorem parse2_eq (R : List UInt8 → Int) (x : RS) (hx : x.e = 0) : parse2R R x = parseR R false x:=by
 unfold parseR
 rw [if_neg (show ¬ x.e ≠ 0 by simpa using hx)]
 by_cases hz : (sizedR x).1.e ≠ 0
 · rw [if_pos hz]
   unfold parse2R textR
   rw [if_pos hz]
   simp only
   generalize (sizedR x).1 = z at *
   have h1 : numR z = (z,0):=by unfold numR takeR;rw [if_pos hz];rfl
   have h2 : countR z = (z,0):=by unfold countR;rw [h1];rfl
   rw [h2]
   simp only [notesR]
   have h3 : endR false z = z:=by
    unfold endR leftR
    simp only [Bool.false_eq_true,if_false]
    rw [if_pos hz,if_neg (by decide)]
   refine Prod.ext h3 ?_
   show (if (endR false z).e ≠ 0 then none else some _) = none
   rw [if_pos (by rw [h3];exact hz)]
 · rw [if_neg hz]
   unfold parse2R textR
   rw [if_neg hz]
theorem okR_nt {R : List UInt8 → Int} {x : RS} (h : okR x) : okR (noteR R x).1:=by
 unfold noteR
 split
 · exact okR_take (okR_num h) _
 · simp only
   split
   · exact okR_fail (okR_take (okR_num h) _) _ _
   · exact okR_leaf (okR_take (okR_num h) _) _ _
theorem okR_cnt {x : RS} (h : okR x) : okR (countR x).1:=by
 unfold countR
 simp only
 split
 · exact okR_fail (okR_num h) _ _
 · exact okR_num h
structure NS (w : World) (x : RS) (vt : ByteArray) (vs : Int) (v : Value) (L : List Nt) (wr : World) : Prop where
 bel : Below w.heap.size w wr
 r : wr.heap[w.heap.size]? = some (.cells #[.string x.s,.int .i64 x.n,.int .i64 x.b,.int .i64 x.e,.int .i64 x.a] 109 (0,0))
 z1 : wr.heap[w.heap.size + 1]? = some (.cells #[.string ⟨#[]⟩,.int .i64 0,.int .i64 0,.int .i64 0,.int .i64 0] 109 (0,0))
 z2 : wr.heap[w.heap.size + 1 + 1]? = some (.cells #[.string ⟨#[]⟩,.string ⟨#[]⟩,.int .i64 0,.slice none 0 0] 45 (0,0))
 b : wr.heap[w.heap.size + 1 + 1 + 1]? = some (.cells #[.string ⟨#[]⟩,.string vt,.int .i64 vs,v] 45 (0,0))
 own : wr.ownsRow (w.heap.size + 4) 42 3 v L.length (ntcells L)
section
variable {w wr : World} {x : RS} {vt : ByteArray} {vs : Int} {v : Value} {L : List Nt}
theorem NS.sz (h : NS w x vt vs v L wr) : w.heap.size + 4 ≤ wr.heap.size:=(Array.getElem?_eq_some_iff.1 h.b).1
theorem NS.keep (h : NS w x vt vs v L wr) {w' : World} (hb : Below wr.heap.size wr w') : NS w x vt vs v L w':=by
 have hz:=h.sz
 exact ⟨bt h.bel hb,(hb.block _ (by omega)).trans h.r,(hb.block _ (by omega)).trans h.z1,(hb.block _ (by omega)).trans h.z2,(hb.block _ (by omega)).trans h.b,orow_bel h.own hb⟩
theorem NS.setr (h : NS w x vt vs v L wr) (y : RS) : NS w y vt vs v L (st5 wr w.heap.size (.string y.s) (.int .i64 y.n) (.int .i64 y.b) (.int .i64 y.e) (.int .i64 y.a)):=
 ⟨st5_below h.bel (Nat.le_refl _) _ _ _ _ _,st5_blk h.r _ _ _ _ _,(st5_other _ _ _ _ _ _ _ _ (by omega)).trans h.z1,(st5_other _ _ _ _ _ _ _ _ (by omega)).trans h.z2,(st5_other _ _ _ _ _ _ _ _ (by omega)).trans h.b,
  orow_other h.own fun q hq=>st5_other _ _ _ _ _ _ _ _ (by have:=(orow_blk h.own q hq).1;omega)⟩
theorem NS.other (h : NS w x vt vs v L wr) (o : Nat) (u : Value) (q : Nat) (hq : q ≠ w.heap.size + 1 + 1 + 1) : (wr.setCell ⟨w.heap.size + 1 + 1 + 1,o,none⟩ u).heap[q]? = wr.heap[q]?:=Below.heap_setCell _ _ _ q hq
theorem NS.setv (h : NS w x vt vs v L wr) (t : ByteArray) (c : Int) : NS w x t c v L ((wr.setCell ⟨w.heap.size + 1 + 1 + 1,1,none⟩ (.string t)).setCell ⟨w.heap.size + 1 + 1 + 1,2,none⟩ (.int .i64 c)):=by
 have s1:=Go.Lib.heap_setCell_same (i:=1) h.b (.string t)
 have s2:=Go.Lib.heap_setCell_same (i:=2) s1 (.int .i64 c)
 have ho : ∀ q,q ≠ w.heap.size + 1 + 1 + 1 → ((wr.setCell ⟨w.heap.size + 1 + 1 + 1,1,none⟩ (.string t)).setCell ⟨w.heap.size + 1 + 1 + 1,2,none⟩ (.int .i64 c)).heap[q]? = wr.heap[q]?:=fun q hq=>by
  rw [Below.heap_setCell _ _ _ q hq,Below.heap_setCell _ _ _ q hq]
 exact ⟨(h.bel.setCell (by simp;omega) _).setCell (by simp;omega) _,(ho _ (by omega)).trans h.r,(ho _ (by omega)).trans h.z1,(ho _ (by omega)).trans h.z2,by rw [s2];simp,
  orow_other h.own fun q hq=>ho q (by have:=(orow_blk h.own q hq).1;omega)⟩
end
theorem st5_size (w : World) (H : Nat) (a b c d e : Value) : (st5 w H a b c d e).heap.size = w.heap.size:=by unfold st5;simp only [World.size_setCell]
theorem NS.push {w wr : World} {x : RS} {vt : ByteArray} {vs : Int} {v : Value} {L : List Nt} (h : NS w x vt vs v L wr) {w7 : World} {v7 : Value} (m : Nt) (ho : w7.ownsRow (w.heap.size + 4) 42 3 v7 (L.length + 1) (ntcells L ++ (#[.string m.name,.string m.text,.int .i64 m.set] : Array Value).toList)) (hb : Below (w.heap.size + 4) wr w7) :
 NS w x vt vs v7 (L ++ [m]) (w7.setCell ⟨w.heap.size + 1 + 1 + 1,3,none⟩ v7):=by
 have hz:=h.sz
 have hB:=(hb.block (w.heap.size + 1 + 1 + 1) (by omega)).trans h.b
 have s3:=Go.Lib.heap_setCell_same (i:=3) hB v7
 have ho2 : ∀ q,q ≠ w.heap.size + 1 + 1 + 1 → (w7.setCell ⟨w.heap.size + 1 + 1 + 1,3,none⟩ v7).heap[q]? = w7.heap[q]?:=fun q hq=>Below.heap_setCell _ _ _ q hq
 refine ⟨(h.bel.trans (hb.mono (by omega))).setCell (by simp;omega) _,(ho2 _ (by omega)).trans ((hb.block _ (by omega)).trans h.r),(ho2 _ (by omega)).trans ((hb.block _ (by omega)).trans h.z1),(ho2 _ (by omega)).trans ((hb.block _ (by omega)).trans h.z2),by rw [s3];simp,?_⟩
 rw [List.length_append,ntcells_snoc']
 exact orow_other ho fun q hq=>ho2 q (by have:=(orow_blk ho q hq).1;omega)
theorem set54 {w W : World} {H : Nat} (hb : Below w.heap.size w W) (hH : w.heap.size ≤ H) (a b c d e f g h i : Value) : Below w.heap.size w ((((((((((W.setCell ⟨H,0,none⟩ a).setCell ⟨H,1,none⟩ b).setCell ⟨H,2,none⟩ c).setCell ⟨H,3,none⟩ d).setCell ⟨H,4,none⟩ e).setCell ⟨H + 1,0,none⟩ f).setCell ⟨H + 1,1,none⟩ g).setCell ⟨H + 1,2,none⟩ h).setCell ⟨H + 1,3,none⟩ i)):=
 ((((set5 hb hH a b c d e).setCell (by simp;omega) _).setCell (by simp;omega) _).setCell (by simp;omega) _).setCell (by simp;omega) _
theorem so54 (w : World) (H : Nat) (a b c d e f g h i : Value) (j : Nat) (h1 : j ≠ H) (h2 : j ≠ H + 1) : ((((((((((w.setCell ⟨H,0,none⟩ a).setCell ⟨H,1,none⟩ b).setCell ⟨H,2,none⟩ c).setCell ⟨H,3,none⟩ d).setCell ⟨H,4,none⟩ e).setCell ⟨H + 1,0,none⟩ f).setCell ⟨H + 1,1,none⟩ g).setCell ⟨H + 1,2,none⟩ h).setCell ⟨H + 1,3,none⟩ i)).heap[j]? = w.heap[j]?:=by
 rw [Below.heap_setCell _ _ _ j h2,Below.heap_setCell _ _ _ j h2,Below.heap_setCell _ _ _ j h2,Below.heap_setCell _ _ _ j h2,Below.heap_setCell _ _ _ j h1,Below.heap_setCell _ _ _ j h1,Below.heap_setCell _ _ _ j h1,Below.heap_setCell _ _ _ j h1,Below.heap_setCell _ _ _ j h1]
theorem heap_drew (w : World) (j : Nat) : w.drew.heap[j]? = w.heap[j]?:=rfl
theorem so54d (w : World) (H : Nat) (a b c d e f g h i : Value) (j : Nat) (h1 : j ≠ H) (h2 : j ≠ H + 1) : ((((((((((w.setCell ⟨H,0,none⟩ a).setCell ⟨H,1,none⟩ b).setCell ⟨H,2,none⟩ c).setCell ⟨H,3,none⟩ d).setCell ⟨H,4,none⟩ e).setCell ⟨H + 1,0,none⟩ f).setCell ⟨H + 1,1,none⟩ g).setCell ⟨H + 1,2,none⟩ h).setCell ⟨H + 1,3,none⟩ i)).drew.heap[j]? = w.heap[j]?:=(heap_drew _ j).trans (so54 w H a b c d e f g h i j h1 h2)
theorem own54 {w : World} {B C H : Nat} {t : TypeId} {v : Value} {n : Nat} {cs : List Value} (ho : w.ownsRow C t 3 v n cs) (hC : H + 1 < C) (hB : B ≤ C) (a b c d e f g h i : Value) : ((((((((((w.setCell ⟨H,0,none⟩ a).setCell ⟨H,1,none⟩ b).setCell ⟨H,2,none⟩ c).setCell ⟨H,3,none⟩ d).setCell ⟨H,4,none⟩ e).setCell ⟨H + 1,0,none⟩ f).setCell ⟨H + 1,1,none⟩ g).setCell ⟨H + 1,2,none⟩ h).setCell ⟨H + 1,3,none⟩ i)).drew.ownsRow B t 3 v n cs:=by
 refine orow_mono (orow_other ho fun j hj=>?_) hB
 have h1:=(orow_blk ho j hj).1
 exact so54d w H a b c d e f g h i j (by omega) (by omega)
theorem left_e {q : RS} (h : 0 < leftR q) : q.e = 0:=by
 unfold leftR at h
 split at h
 · omega
 · rename_i h2;simpa using h2
theorem end_f (q : RS) : endR false q = if 0 < leftR q then failR q 1 ((q.b : Int) + q.n) else q:=by
 unfold endR
 simp only [Bool.false_eq_true,if_false]
def RParsePost (p : RS × Option Bk) (w : World) (e : Ending) (w' : World) : Prop:=Below w.heap.size w w' ∧ ∃ (t : ByteArray) (c : Int) (v : Value) (L : List Nt),e = .returned (.tuple #[inV p.1,.agg #[.string ⟨#[]⟩,.string t,.int .i64 c,v]]) ∧ w'.ownsRow w.heap.size 42 3 v L.length (ntcells L) ∧ (∀ b,p.2 = some b → t = b.vt ∧ c = b.vs ∧ L = b.ns)
set_option maxRecDepth 100000 in
theorem r19parse_any (x : RS) (fb : Int) (g : Bool) (w : World) (hk : okR x) (hs : x.s.size ≤ 1048576) (hx : x.e = 0) :
 Calls Tryz.prog 48 #[inV x,.bool false,.int .i64 fb,.bool g] w (RParsePost (parseR (RM fb g) false x) w):=by
 rw [← parse2_eq _ _ hx]
 obtain ⟨RES,hRES⟩ : ∃ RES,RES = parse2R (RM fb g) x:=⟨_,rfl⟩
 rw [← hRES]
 unfold parse2R sizedR at hRES
 simp only at hRES
 have k1:=fun w=>r19num_any x w hk
 have hok1:=okR_num hk
 have hN : (numR x).2 < 4294967296:=by
  unfold numR
  simp only
  refine Nat.lt_of_lt_of_le (leN_lt _) ?_
  rw [bl_length]
  exact Nat.le_trans (Nat.pow_le_pow_right (by decide) (takeR_size x 4)) (by decide)
 have hys : (numR x).1.s.size ≤ 1048576:=by unfold numR;simp only;rw [takeR_s];exact hs
 generalize numR x = Y at *
 obtain ⟨y,N⟩:=Y
 simp only at k1 hok1 hN hys hRES
 have k2:=fun w=>rtake_any y N w hok1 (by omega) (by omega)
 have hok2:=okR_take hok1 (N : Int)
 have hts : (takeR y N).2.size ≤ 1048576:=Nat.le_trans (takeR_len _ _) hys
 have hzs : (takeR y N).1.s.size ≤ 1048576:=by rw [takeR_s];exact hys
 have hyb : y.b ≤ 1099511627776 ∧ y.n ≤ 1048576:=⟨hok1.2.2,Nat.le_trans hok1.1 hys⟩
 generalize takeR y N = Z at *
 obtain ⟨z,t⟩:=Z
 simp only at k2 hok2 hts hzs hRES
 have k3:=fun w=>r19text_any z t ((y.b : Int) + y.n) fb g w hts (by omega) (by omega)
 unfold TextPost at k3
 have hok3 : okR (textR (RM fb g) z t ((y.b : Int) + y.n)).1:=by unfold textR;split;exact hok2;exact okR_leaf hok2 _ _
 have hls : (textR (RM fb g) z t ((y.b : Int) + y.n)).1.s.size ≤ 1048576:=by unfold textR;split;exact hzs;rw [leafR_s];exact hzs
 generalize textR (RM fb g) z t ((y.b : Int) + y.n) = P at *
 obtain ⟨l,vt,vs⟩:=P
 simp only at k3 hok3 hls hRES
 have k4:=fun w=>r19num_any l w hok3
 have hlb : l.b ≤ 1099511627776 ∧ l.n ≤ 1048576:=⟨hok3.2.2,Nat.le_trans hok3.1 hls⟩
 have hok5:=okR_cnt hok3
 have hds : (countR l).1.s.size ≤ 1048576:=by unfold countR numR;simp only;split;rw [failR_s,takeR_s];exact hls;rw [takeR_s];exact hls
 unfold countR at hRES hok5 hds
 simp only at hRES hok5 hds
 have hN2 : (numR l).2 < 4294967296:=by
  unfold numR
  simp only
  refine Nat.lt_of_lt_of_le (leN_lt _) ?_
  rw [bl_length]
  exact Nat.le_trans (Nat.pow_le_pow_right (by decide) (takeR_size l 4)) (by decide)
 generalize numR l = C at *
 obtain ⟨c,n⟩:=C
 simp only at k4 hN2 hRES hok5 hds
 have k5:=fun w=>rfail_any c 4 ((l.b : Int) + l.n) w
 obtain ⟨d,hd⟩ : ∃ d,d = if 4096 < n then failR c 4 ((l.b : Int) + l.n) else c:=⟨_,rfl⟩
 rw [← hd] at hRES hok5 hds
 have kn:=fun (q : RS) (w : World) (h1 : okR q) (h2 : q.s.size ≤ 1048576)=>r19note_any q fb g w h1 h2
 unfold RNotePost at kn
 have kl:=fun (q : RS) (w : World) (h1 : okR q)=>rleft_any q w h1
 have kf:=fun (q : RS) (p : Int) (w : World)=>rfail_any q 1 p w
 unfold RParsePost
 obtain ⟨M,hM⟩ : ∃ M,M = notesR (RM fb g) n d []:=⟨_,rfl⟩
 rw [← hM] at hRES
 have hwa : IntKind.i64.wrap ((y.b : Int) + y.n) = (y.b : Int) + y.n:=wi64 _ (by omega) (by omega)
 have hwb : IntKind.i64.wrap ((l.b : Int) + l.n) = (l.b : Int) + l.n:=wi64 _ (by omega) (by omega)
 have inv : ∀ q : RS,inV q = .agg #[.string q.s,.int .i64 q.n,.int .i64 q.b,.int .i64 q.e,.int .i64 q.a]:=fun _=>rfl
 simp only [inv] at k1 k2 k3 k4 k5 kn kl kf ⊢
 obtain ⟨xs,xn,xb,xe,xa⟩:=x
 obtain ⟨ys,yn,yb,ye,ya⟩:=y
 obtain ⟨zs,zn,zb,ze,za⟩:=z
 obtain ⟨ls,ln,lb,le,la⟩:=l
 obtain ⟨cs,cn,cb,ce,ca⟩:=c
 simp only at k1 k2 k3 k4 k5 hyb hlb hwa hwb hd ⊢
 obtain ⟨W,hW⟩ : ∃ W,W = (((w.alloc (.cells #[.string xs,.int .i64 xn,.int .i64 xb,.int .i64 xe,.int .i64 xa] 109)).alloc (.cells #[.string ⟨#[]⟩,.int .i64 0,.int .i64 0,.int .i64 0,.int .i64 0] 109)).alloc (.cells #[.string ⟨#[]⟩,.string ⟨#[]⟩,.int .i64 0,.slice none 0 0] 45)).alloc (.cells #[.string ⟨#[]⟩,.string ⟨#[]⟩,.int .i64 0,.slice none 0 0] 45):=⟨_,rfl⟩
 have hz1 : (w.alloc (.cells #[.string xs,.int .i64 xn,.int .i64 xb,.int .i64 xe,.int .i64 xa] 109)).heap.size = w.heap.size + 1:=by simp only [World.size_alloc]
 have hz2 : ((w.alloc (.cells #[.string xs,.int .i64 xn,.int .i64 xb,.int .i64 xe,.int .i64 xa] 109)).alloc (.cells #[.string ⟨#[]⟩,.int .i64 0,.int .i64 0,.int .i64 0,.int .i64 0] 109)).heap.size = w.heap.size + 1 + 1:=by simp only [World.size_alloc]
 have hz3 : (((w.alloc (.cells #[.string xs,.int .i64 xn,.int .i64 xb,.int .i64 xe,.int .i64 xa] 109)).alloc (.cells #[.string ⟨#[]⟩,.int .i64 0,.int .i64 0,.int .i64 0,.int .i64 0] 109)).alloc (.cells #[.string ⟨#[]⟩,.string ⟨#[]⟩,.int .i64 0,.slice none 0 0] 45)).heap.size = w.heap.size + 1 + 1 + 1:=by simp only [World.size_alloc]
 have hbW : Below w.heap.size w W:=by rw [hW];exact bal (bal (bal (bal (Below.refl _ _) _) _) _) _
 have hWs : W.heap.size = w.heap.size + 1 + 1 + 1 + 1:=by rw [hW];simp only [World.size_alloc]
 have hB0 : W.heap[w.heap.size]? = some (.cells #[.string xs,.int .i64 xn,.int .i64 xb,.int .i64 xe,.int .i64 xa] 109 (0,0)):=by rw [hW];exact (heap_alloc_old _ _ (by simp only [World.size_alloc];omega)).trans ((heap_alloc_old _ _ (by simp only [World.size_alloc];omega)).trans ((heap_alloc_old _ _ (by simp only [World.size_alloc];omega)).trans (heap_alloc_new w _)))
 have hB1 : W.heap[w.heap.size + 1]? = some (.cells #[.string ⟨#[]⟩,.int .i64 0,.int .i64 0,.int .i64 0,.int .i64 0] 109 (0,0)):=by rw [hW,← hz1];exact (heap_alloc_old _ _ (by simp only [World.size_alloc];omega)).trans ((heap_alloc_old _ _ (by simp only [World.size_alloc];omega)).trans (heap_alloc_new (w.alloc (.cells #[.string xs,.int .i64 xn,.int .i64 xb,.int .i64 xe,.int .i64 xa] 109)) _))
 have hB2 : W.heap[w.heap.size + 1 + 1]? = some (.cells #[.string ⟨#[]⟩,.string ⟨#[]⟩,.int .i64 0,.slice none 0 0] 45 (0,0)):=by rw [hW,← hz2];exact (heap_alloc_old _ _ (by simp only [World.size_alloc];omega)).trans (heap_alloc_new ((w.alloc (.cells #[.string xs,.int .i64 xn,.int .i64 xb,.int .i64 xe,.int .i64 xa] 109)).alloc (.cells #[.string ⟨#[]⟩,.int .i64 0,.int .i64 0,.int .i64 0,.int .i64 0] 109)) _)
 have hB3 : W.heap[w.heap.size + 1 + 1 + 1]? = some (.cells #[.string ⟨#[]⟩,.string ⟨#[]⟩,.int .i64 0,.slice none 0 0] 45 (0,0)):=by rw [hW,← hz3];exact heap_alloc_new (((w.alloc (.cells #[.string xs,.int .i64 xn,.int .i64 xb,.int .i64 xe,.int .i64 xa] 109)).alloc (.cells #[.string ⟨#[]⟩,.int .i64 0,.int .i64 0,.int .i64 0,.int .i64 0] 109)).alloc (.cells #[.string ⟨#[]⟩,.string ⟨#[]⟩,.int .i64 0,.slice none 0 0] 45)) _
 clear hz1 hz2 hz3
 obtain ⟨c0,c0'⟩:=live_of hB0 0 _ rfl
 obtain ⟨c1,c1'⟩:=live_of hB0 1 _ rfl
 obtain ⟨c2,c2'⟩:=live_of hB0 2 _ rfl
 obtain ⟨c3,c3'⟩:=live_of hB0 3 _ rfl
 obtain ⟨c4,c4'⟩:=live_of hB0 4 _ rfl
 have n0 : NS w ⟨xs,xn,xb,xe,xa⟩ ⟨#[]⟩ 0 (.slice none 0 0) [] W:=⟨hbW,hB0,hB1,hB2,hB3,World.ownsRow_nil _ _ _ _⟩
 have K1:=Lib.hid k1
 have K2:=Lib.hid k2
 have K3:=Lib.hid k3
 have K4:=Lib.hid k4
 have K5:=Lib.hid k5
 have KN:=Lib.hid kn
 have KL:=Lib.hid kl
 have KF:=Lib.hid kf
 have NS0:=Lib.hid n0
 have HRES:=Lib.hid hRES
 have HD:=Lib.hid hd
 have HM:=Lib.hid hM
 have HN2:=Lib.hid hN2
 have HOK5:=Lib.hid hok5
 have HDS:=Lib.hid hds
 clear k1 k2 k3 k4 k5 kn kl kf n0 hRES hd hM hN2 hok5 hds
 clear hok1 hok2 hok3 hN hys hk hs hx hts hzs hls hB0 hB1 hB2 hB3 hbW hWs inv
 go_enter Tryz.func48,Tryz.ntmps48
 go_wp2_with fail
 rw [← hW]
 clear hW
 with_reducible refine (K1.out _).mono ?_
 rintro e1 w1 ⟨rfl,hb⟩
 have n1:=NS0.out.keep hb
 obtain ⟨r0,r0'⟩:=live_of n1.r 0 _ rfl
 obtain ⟨r1,r1'⟩:=live_of n1.r 1 _ rfl
 obtain ⟨r2,r2'⟩:=live_of n1.r 2 _ rfl
 obtain ⟨r3,r3'⟩:=live_of n1.r 3 _ rfl
 obtain ⟨r4,r4'⟩:=live_of n1.r 4 _ rfl
 clear c0 c0' c1 c1' c2 c2' c3 c3' c4 c4'
 clear hb NS0
 go_wp2_with fail
 have n2:=n1.setr ⟨ys,yn,yb,ye,ya⟩
 obtain ⟨W2,hh⟩ : ∃ W2,W2 = st5 w1 w.heap.size (.string ys) (.int .i64 yn) (.int .i64 yb) (.int .i64 ye) (.int .i64 ya):=⟨_,rfl⟩
 rw [← hh] at n2
 unfold st5 at hh
 rw [← hh]
 clear hh
 clear r0 r0' r1 r1' r2 r2' r3 r3' r4 r4'
 obtain ⟨r0,r0'⟩:=live_of n2.r 0 _ rfl
 obtain ⟨r1,r1'⟩:=live_of n2.r 1 _ rfl
 obtain ⟨r2,r2'⟩:=live_of n2.r 2 _ rfl
 obtain ⟨r3,r3'⟩:=live_of n2.r 3 _ rfl
 obtain ⟨r4,r4'⟩:=live_of n2.r 4 _ rfl
 clear n1
 with_reducible refine (K2.out _).mono ?_
 rintro e2 w3 ⟨rfl,hb⟩
 have n3:=n2.keep hb
 clear r0 r0' r1 r1' r2 r2' r3 r3' r4 r4'
 obtain ⟨r0,r0'⟩:=live_of n3.r 0 _ rfl
 obtain ⟨r1,r1'⟩:=live_of n3.r 1 _ rfl
 obtain ⟨r2,r2'⟩:=live_of n3.r 2 _ rfl
 obtain ⟨r3,r3'⟩:=live_of n3.r 3 _ rfl
 obtain ⟨r4,r4'⟩:=live_of n3.r 4 _ rfl
 clear hb n2
 go_wp2_with fail
 have n4:=n3.setr ⟨zs,zn,zb,ze,za⟩
 obtain ⟨W4,hh⟩ : ∃ W4,W4 = st5 w3 w.heap.size (.string zs) (.int .i64 zn) (.int .i64 zb) (.int .i64 ze) (.int .i64 za):=⟨_,rfl⟩
 rw [← hh] at n4
 unfold st5 at hh
 rw [← hh]
 clear hh
 clear r0 r0' r1 r1' r2 r2' r3 r3' r4 r4'
 clear n3
 with_reducible refine (K3.out _).mono ?_
 rintro e3 w5 ⟨rfl,hb⟩
 have n5:=n4.keep hb
 obtain ⟨r0,r0'⟩:=live_of n5.r 0 _ rfl
 obtain ⟨r1,r1'⟩:=live_of n5.r 1 _ rfl
 obtain ⟨r2,r2'⟩:=live_of n5.r 2 _ rfl
 obtain ⟨r3,r3'⟩:=live_of n5.r 3 _ rfl
 obtain ⟨r4,r4'⟩:=live_of n5.r 4 _ rfl
 obtain ⟨b0,b0'⟩:=live_of n5.b 0 _ rfl
 obtain ⟨b1,b1'⟩:=live_of n5.b 1 _ rfl
 obtain ⟨b2,b2'⟩:=live_of n5.b 2 _ rfl
 obtain ⟨b3,b3'⟩:=live_of n5.b 3 _ rfl
 have ne1 : ¬ w.heap.size = w.heap.size + 1 + 1 + 1:=by omega
 have ne2 : ¬ w.heap.size + 1 + 1 + 1 = w.heap.size:=by omega
 clear hb n4
 go_wp2_with fail
 have n6:=(n5.setr ⟨ls,ln,lb,le,la⟩).setv vt vs
 obtain ⟨W6,hh⟩ : ∃ W6,W6 = ((st5 w5 w.heap.size (.string ls) (.int .i64 ln) (.int .i64 lb) (.int .i64 le) (.int .i64 la)).setCell ⟨w.heap.size + 1 + 1 + 1,1,none⟩ (.string vt)).setCell ⟨w.heap.size + 1 + 1 + 1,2,none⟩ (.int .i64 vs):=⟨_,rfl⟩
 rw [← hh] at n6
 unfold st5 at hh
 rw [← hh]
 clear hh
 clear r0 r0' r1 r1' r2 r2' r3 r3' r4 r4'
 clear n5 b0 b1 b2 b3 b0' b1' b2' b3'
 with_reducible refine (K4.out _).mono ?_
 rintro e4 w7 ⟨rfl,hb⟩
 have n7:=n6.keep hb
 obtain ⟨r0,r0'⟩:=live_of n7.r 0 _ rfl
 obtain ⟨r1,r1'⟩:=live_of n7.r 1 _ rfl
 obtain ⟨r2,r2'⟩:=live_of n7.r 2 _ rfl
 obtain ⟨r3,r3'⟩:=live_of n7.r 3 _ rfl
 obtain ⟨r4,r4'⟩:=live_of n7.r 4 _ rfl
 clear hb n6 K1 K2 K3 K4
 by_cases hgt : 4096 < n
 · have dg : (n : Int) > 4096:=by omega
   have hd:=HD.out
   rw [if_pos hgt] at hd
   have k5:=K5.out
   have hde : d.e ≠ 0:=by rw [hd];exact failR_bad _ _ _ (by decide)
   rw [← hd] at k5
   obtain ⟨ds,dn,db,de,da⟩:=d
   simp only at k5 hde
   have K5':=Lib.hid k5
   clear k5
   clear hd hgt HD
   go_wp2_with fail
   have n8:=n7.setr ⟨cs,cn,cb,ce,ca⟩
   obtain ⟨W8,hh⟩ : ∃ W8,W8 = st5 w7 w.heap.size (.string cs) (.int .i64 cn) (.int .i64 cb) (.int .i64 ce) (.int .i64 ca):=⟨_,rfl⟩
   rw [← hh] at n8
   unfold st5 at hh
   rw [← hh]
   clear hh n7 r0 r1 r2 r3 r4 r0' r1' r2' r3' r4'
   obtain ⟨r0,r0'⟩:=live_of n8.r 0 _ rfl
   obtain ⟨r1,r1'⟩:=live_of n8.r 1 _ rfl
   obtain ⟨r2,r2'⟩:=live_of n8.r 2 _ rfl
   obtain ⟨r3,r3'⟩:=live_of n8.r 3 _ rfl
   obtain ⟨r4,r4'⟩:=live_of n8.r 4 _ rfl
   with_reducible refine (K5'.out _).mono ?_
   rintro e5 w9 ⟨rfl,hb⟩
   have n9:=n8.keep hb
   clear r0 r1 r2 r3 r4 r0' r1' r2' r3' r4'
   obtain ⟨r0,r0'⟩:=live_of n9.r 0 _ rfl
   obtain ⟨r1,r1'⟩:=live_of n9.r 1 _ rfl
   obtain ⟨r2,r2'⟩:=live_of n9.r 2 _ rfl
   obtain ⟨r3,r3'⟩:=live_of n9.r 3 _ rfl
   obtain ⟨r4,r4'⟩:=live_of n9.r 4 _ rfl
   clear hb n8
   go_wp2_with fail
   have nD:=n9.setr ⟨ds,dn,db,de,da⟩
   obtain ⟨W10,hh⟩ : ∃ W10,W10 = st5 w9 w.heap.size (.string ds) (.int .i64 dn) (.int .i64 db) (.int .i64 de) (.int .i64 da):=⟨_,rfl⟩
   rw [← hh] at nD
   unfold st5 at hh
   rw [← hh]
   clear hh n9
   go_loopw [14] (fun iv wr=>∃ (k : Nat) (q : RS) (L : List Nt) (v : Value),iv = .int .i64 (k : Int) ∧ k ≤ n ∧ okR q ∧ q.s.size ≤ 1048576 ∧ Hid (notesR (RM fb g) (n - k) q L = M) ∧ L.length = k ∧ NS w q vt vs v L wr ∧ q.e ≠ 0) (fun iv _=>n - (intOf iv).toNat)
   case atStart=>exact ⟨0,⟨ds,dn,db,de,da⟩,[],_,rfl,Nat.zero_le _,HOK5.out,HDS.out,Lib.hid (by rw [HM.out];rfl),rfl,nD,hde⟩
   case round=>
    obtain ⟨k,q,L,v,rfl,hkn,hqk,hqs,hA,hLk,nq,hqe⟩:=hrel
    clear nD
    have nz:=nq.sz
    obtain ⟨av,cv,rfl⟩:=orow_form nq.own
    rw [hLk] at nq
    obtain ⟨r0,r0'⟩:=live_of nq.r 0 _ rfl
    obtain ⟨r1,r1'⟩:=live_of nq.r 1 _ rfl
    obtain ⟨r2,r2'⟩:=live_of nq.r 2 _ rfl
    obtain ⟨r3,r3'⟩:=live_of nq.r 3 _ rfl
    obtain ⟨r4,r4'⟩:=live_of nq.r 4 _ rfl
    have hq1 : q.b ≤ 1099511627776 ∧ q.n ≤ 1048576:=⟨hqk.2.2,Nat.le_trans hqk.1 hqs⟩
    have de0 : (q.e == 0) = false:=by rw [beq_eq_false_iff_ne];exact hqe
    have hM2 : M = (q,L):=by
     rw [← hA.out]
     cases hnk : n - k with
     | zero=>rfl
     | succ m=>rw [notesR,if_pos hqe]
    by_cases hlt : k < n
    · have dk : decide ((k : Int) < (n : Int)) = true:=by simp;omega
      have hl0 : leftR q = 0:=by unfold leftR;rw [if_pos hqe]
      have kL:=fun w=>KL.out q w hqk
      rw [hl0] at kL
      have d1 : (q.e != 0) = true:=by rw [bne_iff_ne];exact hqe
      have hR : Hid (RES = (q,none)):=Lib.hid (by rw [HRES.out,hM2];simp only;rw [end_f,if_neg (show ¬ 0 < leftR q by omega),if_pos hqe])
      have KLL:=Lib.hid kL
      clear kL
      clear hl0 hM2
      go_wp2_with fail
      with_reducible refine (KLL.out _).mono ?_
      rintro e8 wz ⟨rfl,hb⟩
      have nk:=nq.keep hb
      clear r0 r1 r2 r3 r4 r0' r1' r2' r3' r4'
      obtain ⟨r0,r0'⟩:=live_of nk.r 0 _ rfl
      obtain ⟨r1,r1'⟩:=live_of nk.r 1 _ rfl
      obtain ⟨r2,r2'⟩:=live_of nk.r 2 _ rfl
      obtain ⟨r3,r3'⟩:=live_of nk.r 3 _ rfl
      obtain ⟨r4,r4'⟩:=live_of nk.r 4 _ rfl
      obtain ⟨q0,q0'⟩:=live_of nk.z1 0 _ rfl
      obtain ⟨q1,q1'⟩:=live_of nk.z1 1 _ rfl
      obtain ⟨q2,q2'⟩:=live_of nk.z1 2 _ rfl
      obtain ⟨q3,q3'⟩:=live_of nk.z1 3 _ rfl
      obtain ⟨q4,q4'⟩:=live_of nk.z1 4 _ rfl
      obtain ⟨p0,p0'⟩:=live_of nk.z2 0 _ rfl
      obtain ⟨p1,p1'⟩:=live_of nk.z2 1 _ rfl
      obtain ⟨p2,p2'⟩:=live_of nk.z2 2 _ rfl
      obtain ⟨p3,p3'⟩:=live_of nk.z2 3 _ rfl
      clear hb
      go_wp2_with fail
      refine bodyPost_ret (v:=.tuple #[.agg #[.string q.s,.int .i64 q.n,.int .i64 q.b,.int .i64 q.e,.int .i64 q.a],.agg #[.string ⟨#[]⟩,.string ⟨#[]⟩,.int .i64 0,.slice none 0 0]]) (by simp [results,Tryz.results48,go_sem,q0,q1,q2,q3,q4,q0',q1',q2',q3',q4',p0,p1,p2,p3,p0',p1',p2',p3']) rfl ?_
      exact ⟨set54 nk.bel (by omega) _ _ _ _ _ _ _ _ _,⟨#[]⟩,0,.slice none 0 0,[],by rw [hR.out],World.ownsRow_nil _ _ _ _,fun b hb=>by rw [hR.out] at hb;cases hb⟩
    · have dk : decide ((k : Int) < (n : Int)) = false:=by simp;omega
      have hl0 : leftR q = 0:=by unfold leftR;rw [if_pos hqe]
      have kL:=fun w=>KL.out q w hqk
      rw [hl0] at kL
      have d1 : (q.e != 0) = true:=by rw [bne_iff_ne];exact hqe
      have hR : Hid (RES = (q,none)):=Lib.hid (by rw [HRES.out,hM2];simp only;rw [end_f,if_neg (show ¬ 0 < leftR q by omega),if_pos hqe])
      have KLL:=Lib.hid kL
      clear kL
      clear hl0 hM2
      go_wp2_with fail
      with_reducible refine (KLL.out _).mono ?_
      rintro e8 wz ⟨rfl,hb⟩
      have nk:=nq.keep hb
      clear r0 r1 r2 r3 r4 r0' r1' r2' r3' r4'
      obtain ⟨r0,r0'⟩:=live_of nk.r 0 _ rfl
      obtain ⟨r1,r1'⟩:=live_of nk.r 1 _ rfl
      obtain ⟨r2,r2'⟩:=live_of nk.r 2 _ rfl
      obtain ⟨r3,r3'⟩:=live_of nk.r 3 _ rfl
      obtain ⟨r4,r4'⟩:=live_of nk.r 4 _ rfl
      obtain ⟨q0,q0'⟩:=live_of nk.z1 0 _ rfl
      obtain ⟨q1,q1'⟩:=live_of nk.z1 1 _ rfl
      obtain ⟨q2,q2'⟩:=live_of nk.z1 2 _ rfl
      obtain ⟨q3,q3'⟩:=live_of nk.z1 3 _ rfl
      obtain ⟨q4,q4'⟩:=live_of nk.z1 4 _ rfl
      obtain ⟨p0,p0'⟩:=live_of nk.z2 0 _ rfl
      obtain ⟨p1,p1'⟩:=live_of nk.z2 1 _ rfl
      obtain ⟨p2,p2'⟩:=live_of nk.z2 2 _ rfl
      obtain ⟨p3,p3'⟩:=live_of nk.z2 3 _ rfl
      clear hb
      go_wp2_with fail
      refine bodyPost_ret (v:=.tuple #[.agg #[.string q.s,.int .i64 q.n,.int .i64 q.b,.int .i64 q.e,.int .i64 q.a],.agg #[.string ⟨#[]⟩,.string ⟨#[]⟩,.int .i64 0,.slice none 0 0]]) (by simp [results,Tryz.results48,go_sem,q0,q1,q2,q3,q4,q0',q1',q2',q3',q4',p0,p1,p2,p3,p0',p1',p2',p3']) rfl ?_
      exact ⟨set54 nk.bel (by omega) _ _ _ _ _ _ _ _ _,⟨#[]⟩,0,.slice none 0 0,[],by rw [hR.out],World.ownsRow_nil _ _ _ _,fun b hb=>by rw [hR.out] at hb;cases hb⟩
 · have dg : ¬ (n : Int) > 4096:=by omega
   have hd:=HD.out
   rw [if_neg hgt] at hd
   subst hd
   go_wp2_with fail
   have nD:=n7.setr ⟨cs,cn,cb,ce,ca⟩
   obtain ⟨W8,hh⟩ : ∃ W8,W8 = st5 w7 w.heap.size (.string cs) (.int .i64 cn) (.int .i64 cb) (.int .i64 ce) (.int .i64 ca):=⟨_,rfl⟩
   rw [← hh] at nD
   unfold st5 at hh
   rw [← hh]
   clear hh n7 r0 r1 r2 r3 r4 r0' r1' r2' r3' r4'
   go_loopw [14] (fun iv wr=>∃ (k : Nat) (q : RS) (L : List Nt) (v : Value),iv = .int .i64 (k : Int) ∧ k ≤ n ∧ okR q ∧ q.s.size ≤ 1048576 ∧ Hid (notesR (RM fb g) (n - k) q L = M) ∧ L.length = k ∧ NS w q vt vs v L wr) (fun iv _=>n - (intOf iv).toNat)
   case atStart=>exact ⟨0,⟨cs,cn,cb,ce,ca⟩,[],_,rfl,Nat.zero_le _,HOK5.out,HDS.out,Lib.hid (by rw [HM.out];rfl),rfl,nD⟩
   case round=>
    obtain ⟨k,q,L,v,rfl,hkn,hqk,hqs,hA,hLk,nq⟩:=hrel
    clear nD
    have nz:=nq.sz
    obtain ⟨av,cv,rfl⟩:=orow_form nq.own
    rw [hLk] at nq
    obtain ⟨r0,r0'⟩:=live_of nq.r 0 _ rfl
    obtain ⟨r1,r1'⟩:=live_of nq.r 1 _ rfl
    obtain ⟨r2,r2'⟩:=live_of nq.r 2 _ rfl
    obtain ⟨r3,r3'⟩:=live_of nq.r 3 _ rfl
    obtain ⟨r4,r4'⟩:=live_of nq.r 4 _ rfl
    have hq1 : q.b ≤ 1099511627776 ∧ q.n ≤ 1048576:=⟨hqk.2.2,Nat.le_trans hqk.1 hqs⟩
    by_cases hlt : k < n
    · have dk : decide ((k : Int) < (n : Int)) = true:=by simp;omega
      by_cases hqe : q.e = 0
      · have de0 : (q.e == 0) = true:=by rw [beq_iff_eq];exact hqe
        have kq:=fun w=>KN.out q w hqk hqs
        have hst : Hid (notesR (RM fb g) (n - (k + 1)) (noteR (RM fb g) q).1 (L ++ [(noteR (RM fb g) q).2]) = M):=Lib.hid (by
         rw [← hA.out,show n - k = (n - (k + 1)) + 1 by omega,notesR,if_neg (by simpa using hqe)])
        have hok7 : okR (noteR (RM fb g) q).1:=okR_nt hqk
        have hqs7 : (noteR (RM fb g) q).1.s.size ≤ 1048576:=by rw [noteR_s];exact hqs
        generalize noteR (RM fb g) q = T at *
        obtain ⟨⟨ts,tn,tb,te,ta⟩,⟨nm,tx,st⟩⟩:=T
        simp only at kq hst hok7 hqs7
        have KQ:=Lib.hid kq
        have HOK7:=Lib.hid hok7
        have HQS7:=Lib.hid hqs7
        clear kq hok7 hqs7
        clear hA hqe hqk hqs hq1
        go_wp2_with fail
        with_reducible refine (KQ.out _).mono ?_
        rintro e5 wn ⟨rfl,hb⟩
        have na:=nq.keep hb
        have nb:=na.keep (bal (bal (Below.refl wn.heap.size wn) (.cells #[.string ts,.int .i64 tn,.int .i64 tb,.int .i64 te,.int .i64 ta] 109)) (.cells #[.string nm,.string tx,.int .i64 st] 42))
        have nc:=nb.setr ⟨ts,tn,tb,te,ta⟩
        have hsz:=na.sz
        clear r0 r1 r2 r3 r4 r0' r1' r2' r3' r4'
        obtain ⟨r0,r0'⟩:=live_of nb.r 0 _ rfl
        obtain ⟨r1,r1'⟩:=live_of nb.r 1 _ rfl
        obtain ⟨r2,r2'⟩:=live_of nb.r 2 _ rfl
        obtain ⟨r3,r3'⟩:=live_of nb.r 3 _ rfl
        obtain ⟨r4,r4'⟩:=live_of nb.r 4 _ rfl
        obtain ⟨b0,b0'⟩:=live_of nb.b 0 _ rfl
        obtain ⟨b1,b1'⟩:=live_of nb.b 1 _ rfl
        obtain ⟨b2,b2'⟩:=live_of nb.b 2 _ rfl
        obtain ⟨b3,b3'⟩:=live_of nb.b 3 _ rfl
        have x0:=((Live.fresh wn #[.string ts,.int .i64 tn,.int .i64 tb,.int .i64 te,.int .i64 ta] 109 0 _ rfl).alloc (.cells #[.string nm,.string tx,.int .i64 st] 42)).1
        have x1:=((Live.fresh wn #[.string ts,.int .i64 tn,.int .i64 tb,.int .i64 te,.int .i64 ta] 109 1 _ rfl).alloc (.cells #[.string nm,.string tx,.int .i64 st] 42)).1
        have x2:=((Live.fresh wn #[.string ts,.int .i64 tn,.int .i64 tb,.int .i64 te,.int .i64 ta] 109 2 _ rfl).alloc (.cells #[.string nm,.string tx,.int .i64 st] 42)).1
        have x3:=((Live.fresh wn #[.string ts,.int .i64 tn,.int .i64 tb,.int .i64 te,.int .i64 ta] 109 3 _ rfl).alloc (.cells #[.string nm,.string tx,.int .i64 st] 42)).1
        have x4:=((Live.fresh wn #[.string ts,.int .i64 tn,.int .i64 tb,.int .i64 te,.int .i64 ta] 109 4 _ rfl).alloc (.cells #[.string nm,.string tx,.int .i64 st] 42)).1
        have hz3 : k < 70368744177664:=by have:=HN2.out;omega
        have hz5 : (k + 1) * 40 ≤ 140737488355328:=by have:=HN2.out;omega
        have hO1 : (st5 ((wn.alloc (.cells #[.string ts,.int .i64 tn,.int .i64 tb,.int .i64 te,.int .i64 ta] 109)).alloc (.cells #[.string nm,.string tx,.int .i64 st] 42)) w.heap.size (.string ts) (.int .i64 tn) (.int .i64 tb) (.int .i64 te) (.int .i64 ta)).ownsRow (w.heap.size + 4) 42 3 (.slice av k cv) k (ntcells L):=by have:=nc.own;rw [hLk] at this;exact this
        have hsA : (st5 ((wn.alloc (.cells #[.string ts,.int .i64 tn,.int .i64 tb,.int .i64 te,.int .i64 ta] 109)).alloc (.cells #[.string nm,.string tx,.int .i64 st] 42)) w.heap.size (.string ts) (.int .i64 tn) (.int .i64 tb) (.int .i64 te) (.int .i64 ta)).heap.size = wn.heap.size + 1 + 1:=by rw [st5_size,World.size_alloc,World.size_alloc]
        have hOne : (st5 ((wn.alloc (.cells #[.string ts,.int .i64 tn,.int .i64 tb,.int .i64 te,.int .i64 ta] 109)).alloc (.cells #[.string nm,.string tx,.int .i64 st] 42)) w.heap.size (.string ts) (.int .i64 tn) (.int .i64 tb) (.int .i64 te) (.int .i64 ta)).heap[wn.heap.size + 1]? = some (.cells #[.string nm,.string tx,.int .i64 st] 42 (0,0)):=by rw [st5_other _ _ _ _ _ _ _ _ (by omega),← World.size_alloc wn (.cells #[.string ts,.int .i64 tn,.int .i64 tb,.int .i64 te,.int .i64 ta] 109)];exact heap_alloc_new _ _
        clear hb nq na nb
        go_upto_region 15 with fail
        obtain ⟨W5,hh⟩ : ∃ W5,W5 = st5 ((wn.alloc (.cells #[.string ts,.int .i64 tn,.int .i64 tb,.int .i64 te,.int .i64 ta] 109)).alloc (.cells #[.string nm,.string tx,.int .i64 st] 42)) w.heap.size (.string ts) (.int .i64 tn) (.int .i64 tb) (.int .i64 te) (.int .i64 ta):=⟨_,rfl⟩
        rw [← hh] at nc hO1 hsA hOne
        unfold st5 at hh
        rw [← hh]
        clear hh x0 x1 x2 x3 x4 r0 r1 r2 r3 r4 r0' r1' r2' r3' r4' b0 b1 b2 b3 b0' b1' b2' b3'
        obtain ⟨b0,b0'⟩:=live_of nc.b 0 _ rfl
        obtain ⟨b1,b1'⟩:=live_of nc.b 1 _ rfl
        obtain ⟨b2,b2'⟩:=live_of nc.b 2 _ rfl
        obtain ⟨b3,b3'⟩:=live_of nc.b 3 _ rfl
        obtain ⟨o0,o0'⟩:=live_of hOne 0 _ rfl
        obtain ⟨o1,o1'⟩:=live_of hOne 1 _ rfl
        obtain ⟨o2,o2'⟩:=live_of hOne 2 _ rfl
        have HZ3:=Lib.hid hz3
        have HZ5:=Lib.hid hz5
        have HO1:=Lib.hid hO1
        have HSA:=Lib.hid hsA
        clear hz3 hz5 hO1 hsA
        clear hOne
        go_wp2_with (first
         | (at_builtin;go_loud (refine wpList_push1 rfl _ _ 43 42 rfl Tryz.underlying43 (.agg #[.string ⟨#[]⟩,.string ⟨#[]⟩,.int .i64 0]) 3 40 infoRN rfl (by decide) W5 (w.heap.size + 4) (.slice av k cv) k (ntcells L) rfl HO1.out #[.string nm,.string tx,.int .i64 st] rfl (by simp [Value.oneCell']) (by rfl) HZ3.out HZ5.out (by rw [HSA.out];omega) ?_);go_loud (intro v7 w7 hown7 hb7 hk7);go_loud (obtain ⟨av7,cv7,rfl⟩:=orow_form hown7);go_loud (have hB7:=(hb7.block (w.heap.size + 1 + 1 + 1) (by omega)).trans nc.b);go_loud (obtain ⟨c3,c3'⟩:=live_of hB7 3 _ rfl)))
        have nd:=nc.push ⟨nm,tx,st⟩ (by rw [hLk];exact hown7) hb7
        go_roundw
        case rel=>exact ⟨k + 1,⟨ts,tn,tb,te,ta⟩,L ++ [⟨nm,tx,st⟩],_,by go_num,by omega,HOK7.out,HQS7.out,hst,by rw [List.length_append,hLk];rfl,nd⟩
        case measure=>simp [intOf];omega
      · have de0 : (q.e == 0) = false:=by rw [beq_eq_false_iff_ne];exact hqe
        have hM2 : M = (q,L):=by rw [← hA.out,show n - k = (n - (k + 1)) + 1 by omega,notesR,if_pos hqe]
        have hl0 : leftR q = 0:=by unfold leftR;rw [if_pos hqe]
        have kL:=fun w=>KL.out q w hqk
        rw [hl0] at kL
        have d1 : (q.e != 0) = true:=by rw [bne_iff_ne];exact hqe
        have hR : Hid (RES = (q,none)):=Lib.hid (by rw [HRES.out,hM2];simp only;rw [end_f,if_neg (show ¬ 0 < leftR q by omega),if_pos hqe])
        have KLL:=Lib.hid kL
        clear kL
        clear hl0 hM2
        go_wp2_with fail
        with_reducible refine (KLL.out _).mono ?_
        rintro e8 wz ⟨rfl,hb⟩
        have nk:=nq.keep hb
        clear r0 r1 r2 r3 r4 r0' r1' r2' r3' r4'
        obtain ⟨r0,r0'⟩:=live_of nk.r 0 _ rfl
        obtain ⟨r1,r1'⟩:=live_of nk.r 1 _ rfl
        obtain ⟨r2,r2'⟩:=live_of nk.r 2 _ rfl
        obtain ⟨r3,r3'⟩:=live_of nk.r 3 _ rfl
        obtain ⟨r4,r4'⟩:=live_of nk.r 4 _ rfl
        obtain ⟨q0,q0'⟩:=live_of nk.z1 0 _ rfl
        obtain ⟨q1,q1'⟩:=live_of nk.z1 1 _ rfl
        obtain ⟨q2,q2'⟩:=live_of nk.z1 2 _ rfl
        obtain ⟨q3,q3'⟩:=live_of nk.z1 3 _ rfl
        obtain ⟨q4,q4'⟩:=live_of nk.z1 4 _ rfl
        obtain ⟨p0,p0'⟩:=live_of nk.z2 0 _ rfl
        obtain ⟨p1,p1'⟩:=live_of nk.z2 1 _ rfl
        obtain ⟨p2,p2'⟩:=live_of nk.z2 2 _ rfl
        obtain ⟨p3,p3'⟩:=live_of nk.z2 3 _ rfl
        clear hb
        go_wp2_with fail
        refine bodyPost_ret (v:=.tuple #[.agg #[.string q.s,.int .i64 q.n,.int .i64 q.b,.int .i64 q.e,.int .i64 q.a],.agg #[.string ⟨#[]⟩,.string ⟨#[]⟩,.int .i64 0,.slice none 0 0]]) (by simp [results,Tryz.results48,go_sem,q0,q1,q2,q3,q4,q0',q1',q2',q3',q4',p0,p1,p2,p3,p0',p1',p2',p3']) rfl ?_
        exact ⟨set54 nk.bel (by omega) _ _ _ _ _ _ _ _ _,⟨#[]⟩,0,.slice none 0 0,[],by rw [hR.out],World.ownsRow_nil _ _ _ _,fun b hb=>by rw [hR.out] at hb;cases hb⟩
    · have dk : decide ((k : Int) < (n : Int)) = false:=by simp;omega
      have hM2 : M = (q,L):=by rw [← hA.out,show n - k = 0 by omega,notesR]
      by_cases hlf : 0 < leftR q
      · have hqe:=left_e hlf
        have dl : leftR q > 0:=hlf
        have hwq : IntKind.i64.wrap ((q.b : Int) + q.n) = (q.b : Int) + q.n:=wi64 _ (by omega) (by omega)
        have kL:=fun w=>KL.out q w hqk
        have kF:=fun w=>KF.out q ((q.b : Int) + q.n) w
        have hFe:=failR_bad q 1 ((q.b : Int) + q.n) (by decide)
        have hR : Hid (RES = (failR q 1 ((q.b : Int) + q.n),none)):=Lib.hid (by rw [HRES.out,hM2];simp only;rw [end_f,if_pos hlf,if_pos hFe])
        generalize failR q 1 ((q.b : Int) + q.n) = F at *
        obtain ⟨Fs,Fn,Fb,Fe,Fa⟩:=F
        simp only at kF hFe
        have d1 : (Fe != 0) = true:=by rw [bne_iff_ne];exact hFe
        generalize leftR q = lq at *
        have KLL:=Lib.hid kL
        have KFF:=Lib.hid kF
        clear kL kF
        clear hM2 hFe hlf hqe
        go_wp2_with fail
        with_reducible refine (KLL.out _).mono ?_
        rintro e8 wy ⟨rfl,hb⟩
        have nj:=nq.keep hb
        clear r0 r1 r2 r3 r4 r0' r1' r2' r3' r4'
        obtain ⟨r0,r0'⟩:=live_of nj.r 0 _ rfl
        obtain ⟨r1,r1'⟩:=live_of nj.r 1 _ rfl
        obtain ⟨r2,r2'⟩:=live_of nj.r 2 _ rfl
        obtain ⟨r3,r3'⟩:=live_of nj.r 3 _ rfl
        obtain ⟨r4,r4'⟩:=live_of nj.r 4 _ rfl
        clear hb
        go_wp2_with fail
        with_reducible refine (KFF.out _).mono ?_
        rintro e9 wz ⟨rfl,hb⟩
        have nk:=nj.keep hb
        clear r0 r1 r2 r3 r4 r0' r1' r2' r3' r4'
        obtain ⟨r0,r0'⟩:=live_of nk.r 0 _ rfl
        obtain ⟨r1,r1'⟩:=live_of nk.r 1 _ rfl
        obtain ⟨r2,r2'⟩:=live_of nk.r 2 _ rfl
        obtain ⟨r3,r3'⟩:=live_of nk.r 3 _ rfl
        obtain ⟨r4,r4'⟩:=live_of nk.r 4 _ rfl
        obtain ⟨q0,q0'⟩:=live_of nk.z1 0 _ rfl
        obtain ⟨q1,q1'⟩:=live_of nk.z1 1 _ rfl
        obtain ⟨q2,q2'⟩:=live_of nk.z1 2 _ rfl
        obtain ⟨q3,q3'⟩:=live_of nk.z1 3 _ rfl
        obtain ⟨q4,q4'⟩:=live_of nk.z1 4 _ rfl
        obtain ⟨p0,p0'⟩:=live_of nk.z2 0 _ rfl
        obtain ⟨p1,p1'⟩:=live_of nk.z2 1 _ rfl
        obtain ⟨p2,p2'⟩:=live_of nk.z2 2 _ rfl
        obtain ⟨p3,p3'⟩:=live_of nk.z2 3 _ rfl
        clear hb
        go_wp2_with fail
        refine bodyPost_ret (v:=.tuple #[.agg #[.string Fs,.int .i64 Fn,.int .i64 Fb,.int .i64 Fe,.int .i64 Fa],.agg #[.string ⟨#[]⟩,.string ⟨#[]⟩,.int .i64 0,.slice none 0 0]]) (by simp [results,Tryz.results48,go_sem,q0,q1,q2,q3,q4,q0',q1',q2',q3',q4',p0,p1,p2,p3,p0',p1',p2',p3']) rfl ?_
        exact ⟨set54 (set5 nk.bel (Nat.le_refl _) _ _ _ _ _) (by omega) _ _ _ _ _ _ _ _ _,⟨#[]⟩,0,.slice none 0 0,[],by rw [hR.out],World.ownsRow_nil _ _ _ _,fun b hb=>by rw [hR.out] at hb;cases hb⟩
      · by_cases hqe : q.e ≠ 0
        · have hl0 : leftR q = 0:=by unfold leftR;rw [if_pos hqe]
          have kL:=fun w=>KL.out q w hqk
          rw [hl0] at kL
          have d1 : (q.e != 0) = true:=by rw [bne_iff_ne];exact hqe
          have hR : Hid (RES = (q,none)):=Lib.hid (by rw [HRES.out,hM2];simp only;rw [end_f,if_neg (show ¬ 0 < leftR q by omega),if_pos hqe])
          have KLL:=Lib.hid kL
          clear kL
          clear hl0 hM2
          go_wp2_with fail
          with_reducible refine (KLL.out _).mono ?_
          rintro e8 wz ⟨rfl,hb⟩
          have nk:=nq.keep hb
          clear r0 r1 r2 r3 r4 r0' r1' r2' r3' r4'
          obtain ⟨r0,r0'⟩:=live_of nk.r 0 _ rfl
          obtain ⟨r1,r1'⟩:=live_of nk.r 1 _ rfl
          obtain ⟨r2,r2'⟩:=live_of nk.r 2 _ rfl
          obtain ⟨r3,r3'⟩:=live_of nk.r 3 _ rfl
          obtain ⟨r4,r4'⟩:=live_of nk.r 4 _ rfl
          obtain ⟨q0,q0'⟩:=live_of nk.z1 0 _ rfl
          obtain ⟨q1,q1'⟩:=live_of nk.z1 1 _ rfl
          obtain ⟨q2,q2'⟩:=live_of nk.z1 2 _ rfl
          obtain ⟨q3,q3'⟩:=live_of nk.z1 3 _ rfl
          obtain ⟨q4,q4'⟩:=live_of nk.z1 4 _ rfl
          obtain ⟨p0,p0'⟩:=live_of nk.z2 0 _ rfl
          obtain ⟨p1,p1'⟩:=live_of nk.z2 1 _ rfl
          obtain ⟨p2,p2'⟩:=live_of nk.z2 2 _ rfl
          obtain ⟨p3,p3'⟩:=live_of nk.z2 3 _ rfl
          clear hb
          go_wp2_with fail
          refine bodyPost_ret (v:=.tuple #[.agg #[.string q.s,.int .i64 q.n,.int .i64 q.b,.int .i64 q.e,.int .i64 q.a],.agg #[.string ⟨#[]⟩,.string ⟨#[]⟩,.int .i64 0,.slice none 0 0]]) (by simp [results,Tryz.results48,go_sem,q0,q1,q2,q3,q4,q0',q1',q2',q3',q4',p0,p1,p2,p3,p0',p1',p2',p3']) rfl ?_
          exact ⟨set54 nk.bel (by omega) _ _ _ _ _ _ _ _ _,⟨#[]⟩,0,.slice none 0 0,[],by rw [hR.out],World.ownsRow_nil _ _ _ _,fun b hb=>by rw [hR.out] at hb;cases hb⟩
        · have hqe : q.e = 0:=by simpa using hqe
          have dl : ¬ leftR q > 0:=hlf
          have kL:=fun w=>KL.out q w hqk
          have d1 : (q.e != 0) = false:=by rw [bne_eq_false_iff_eq];exact hqe
          have hR : Hid (RES = (q,some ⟨vt,vs,L⟩)):=Lib.hid (by rw [HRES.out,hM2];simp only;rw [end_f,if_neg hlf,if_neg (by simpa using hqe)])
          generalize leftR q = lq at *
          have KLL:=Lib.hid kL
          clear kL
          clear hM2 hlf hqe
          go_wp2_with fail
          with_reducible refine (KLL.out _).mono ?_
          rintro e8 wz ⟨rfl,hb⟩
          have nk:=nq.keep hb
          clear r0 r1 r2 r3 r4 r0' r1' r2' r3' r4'
          obtain ⟨r0,r0'⟩:=live_of nk.r 0 _ rfl
          obtain ⟨r1,r1'⟩:=live_of nk.r 1 _ rfl
          obtain ⟨r2,r2'⟩:=live_of nk.r 2 _ rfl
          obtain ⟨r3,r3'⟩:=live_of nk.r 3 _ rfl
          obtain ⟨r4,r4'⟩:=live_of nk.r 4 _ rfl
          obtain ⟨q0,q0'⟩:=live_of nk.z1 0 _ rfl
          obtain ⟨q1,q1'⟩:=live_of nk.z1 1 _ rfl
          obtain ⟨q2,q2'⟩:=live_of nk.z1 2 _ rfl
          obtain ⟨q3,q3'⟩:=live_of nk.z1 3 _ rfl
          obtain ⟨q4,q4'⟩:=live_of nk.z1 4 _ rfl
          obtain ⟨p0,p0'⟩:=live_of nk.z2 0 _ rfl
          obtain ⟨p1,p1'⟩:=live_of nk.z2 1 _ rfl
          obtain ⟨p2,p2'⟩:=live_of nk.z2 2 _ rfl
          obtain ⟨p3,p3'⟩:=live_of nk.z2 3 _ rfl
          obtain ⟨b0,b0'⟩:=live_of nk.b 0 _ rfl
          obtain ⟨b1,b1'⟩:=live_of nk.b 1 _ rfl
          obtain ⟨b2,b2'⟩:=live_of nk.b 2 _ rfl
          obtain ⟨b3,b3'⟩:=live_of nk.b 3 _ rfl
          clear hb
          go_wp2_with fail
          go_region
          all_goals
           go_wp2_with fail
           refine bodyPost_ret (v:=.tuple #[.agg #[.string q.s,.int .i64 q.n,.int .i64 q.b,.int .i64 q.e,.int .i64 q.a],.agg #[.string ⟨#[]⟩,.string vt,.int .i64 vs,.slice av k cv]]) (by simp [results,Tryz.results48,go_sem,q0,q1,q2,q3,q4,q0',q1',q2',q3',q4',p0,p1,p2,p3,p0',p1',p2',p3']) rfl ?_
           refine ⟨(set54 nk.bel (by omega) _ _ _ _ _ _ _ _ _).drew,vt,vs,.slice av k cv,L,by rw [hR.out],?_,fun b hb=>by rw [hR.out] at hb;simp at hb;subst hb;exact ⟨rfl,rfl,rfl⟩⟩
           have ho:=nk.own
           exact own54 ho (by omega) (by omega) _ _ _ _ _ _ _ _ _
end Go.Proofs.YtmfjmgjhfplijaaGreatDoor
