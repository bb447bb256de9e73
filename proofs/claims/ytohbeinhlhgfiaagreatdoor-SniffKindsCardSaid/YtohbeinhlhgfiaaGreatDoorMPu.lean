/- Pu -/
import Derived.Lib.MapLaws
import Derived.Test.YtohbeinhlhgfiaaGreatDoorMBj
set_option linter.unusedVariables false
set_option linter.unusedSimpArgs false
set_option maxHeartbeats 2000000
namespace Go.Proofs.YtohbeinhlhgfiaaGreatDoor
open Go.RowKit
theorem infoRune : (Tryz.prog.info? 21).map (fun i=>(i.zero,i.size,i.bytes)) = some (some (.int .i32 0),1,4):=by kernel_rfl
def OwnI (w : World) (B : Nat) (v : Value) (l : List Int) : Prop:=w.ownsRow B 21 1 v l.length (icells l)
theorem OwnI.row {w : World} {B : Nat} {v : Value} {l : List Int} (h : OwnI w B v l) : Row w v l.length (icells l):=row_owns h
theorem OwnI.bel {w w' : World} {B : Nat} {v : Value} {l : List Int} (h : OwnI w B v l) (hb : Below w.heap.size w w') : OwnI w' B v l:=orow_bel h hb
def ptsF : Nat → List UInt8 → List Int
 | 0,_=>[]
 | f + 1,l=>if l = [] then [] else ((dec l).1 : Int) :: ptsF f (l.drop (dec l).2)
def pts (l : List UInt8) : List Int:=ptsF l.length l
theorem ptsF_fuel : ∀ (f g : Nat) (l : List UInt8),l.length ≤ f → l.length ≤ g → ptsF f l = ptsF g l:=by
 intro f
 induction f with
 | zero=>
  intro g l hf hg
  have : l = []:=List.eq_nil_of_length_eq_zero (by omega)
  subst this
  cases g <;> simp [ptsF]
 | succ f ih=>
  intro g l hf hg
  cases g with
  | zero=>
   have : l = []:=List.eq_nil_of_length_eq_zero (by omega)
   subst this
   simp [ptsF]
  | succ g=>
   simp only [ptsF]
   split
   · rfl
   · have:=dec_pos l
     rw [ih g _ (by rw [List.length_drop];omega) (by rw [List.length_drop];omega)]
theorem pts_nil : pts [] = []:=rfl
theorem pts_cons (l : List UInt8) (h : l ≠ []) : pts l = ((dec l).1 : Int) :: pts (l.drop (dec l).2):=by
 have hp:=List.length_pos_iff.2 h
 unfold pts
 obtain ⟨n,hn⟩ : ∃ n,l.length = n + 1:=⟨l.length - 1,by omega⟩
 have:=dec_pos l
 rw [hn,ptsF,if_neg h,ptsF_fuel n ((l.drop (dec l).2).length) _ (by rw [List.length_drop];omega) (Nat.le_refl _)]
theorem scanF_pts : ∀ (f : Nat) (l : List UInt8) (at_ n m : Nat),l.length ≤ f → scanF f l at_ n = (m,none) → m = n + (ptsF f l).length:=by
 intro f
 induction f with
 | zero=>intro l at_ n m h hs;simp [scanF] at hs;simp [ptsF,hs]
 | succ f ih=>
  intro l at_ n m h hs
  simp only [scanF] at hs
  simp only [ptsF]
  split at hs
  · rename_i hl;simp at hs;simp [hl,hs]
  · rename_i hl
    rw [if_neg hl]
    split at hs
    · simp at hs
    · have:=dec_pos l
      have:=ih _ _ _ _ (by rw [List.length_drop];omega) hs
      simp only [List.length_cons];omega
theorem scanL_pts (l : List UInt8) (m : Nat) (h : scanL l = (m,none)) : m = (pts l).length:=by
 have:=scanF_pts l.length l 0 0 m (Nat.le_refl _) h
 unfold pts;omega
theorem scanF_bd : ∀ (f : Nat) (l : List UInt8) (at_ n : Nat),(scanF f l at_ n).1 ≤ n + l.length:=by
 intro f
 induction f with
 | zero=>intro l at_ n;simp [scanF]
 | succ f ih=>
  intro l at_ n
  simp only [scanF]
  split
  · simp
  · rename_i hl
    split
    · simp
    · have:=ih (l.drop (dec l).2) (at_ + (dec l).2) (n + 1)
      have:=dec_pos l
      have:=dec_le l hl
      rw [List.length_drop] at *
      omega
theorem count_any (s : ByteArray) (w : World) (hT : TW w) (hs : s.size ≤ 9223372036854775807) :
 Calls Tryz.prog 293 #[.string s] w fun e w'=>e = .returned (.int .i64 (scanL (bl s)).1) ∧ Below w.heap.size w w':=by
 have k1:=fun w hT=>scan_any s w hT hs
 obtain ⟨a,b,hab⟩:=faultV_agg (scanL (bl s)).2
 rw [hab] at k1
 generalize (scanL (bl s)).1 = n at *
 clear hab
 have K1:=Lib.hid k1
 clear k1
 go_enter Tryz.func293,Tryz.ntmps293
 go_wp2_with (go_at_call 250;refine (K1.out _ hT).mono ?_;rintro e w1 ⟨rfl,hb1⟩)
 go_ret
 exact ⟨rfl,by first | exact hb1 | exact hb1.trans ((Below.refl _ _).alloc hb1.size _)⟩
def PtsPost (l : List UInt8) (B : Nat) (w : World) (e : Ending) (w' : World) : Prop:=
 ∃ v,e = .returned (.tuple #[v,faultV (scanL l).2]) ∧ OwnI w' B v (if (scanL l).2 = none then pts l else []) ∧ Below w.heap.size w w'
theorem points_any (s : ByteArray) (w : World) (hT : TW w) (hs : s.size ≤ 1073741824) :
 Calls Tryz.prog 199 #[.string s] w (PtsPost (bl s) w.heap.size w):=by
 have k1:=fun w hT=>scan_any s w hT (by omega)
 have l0:=Live.fresh w #[.int .i64 0,.int .i64 0] 64 0 _ rfl
 have l1:=Live.fresh w #[.int .i64 0,.int .i64 0] 64 1 _ rfl
 have k2:=fun a b w=>bad_any a b w
 rcases hR : scanL (bl s) with ⟨n,o⟩
 rw [hR] at k1
 simp only at k1
 have K1:=Lib.hid k1
 have K2:=Lib.hid k2
 have HR:=Lib.hid hR
 clear k1 k2 hR
 cases o with
 | some k=>
  simp only [faultV] at K1
  go_enter Tryz.func199,Tryz.ntmps199
  go_wp2_with (first
   | (go_at_call 250;refine (K1.out _ (hT.alloc _)).mono ?_;rintro e w1 ⟨rfl,hb1⟩;obtain ⟨a1,a2⟩:=l0.keep hb1;obtain ⟨a3,a4⟩:=l1.keep hb1;have hsz:=(Live.keep l0 hb1).lt)
   | (go_at_call 24;refine (K2.out _ _ _).mono ?_;rintro e w2 ⟨rfl,hb2⟩))
  have q0:=(Live.fresh w1 #[.int .i64 2,.int .i64 k] 64 0 _ rfl).keep hb2
  have q1:=(Live.fresh w1 #[.int .i64 2,.int .i64 k] 64 1 _ rfl).keep hb2
  have m0:=((l0.keep hb1).alloc (.cells #[.int .i64 2,.int .i64 k] 64)).keep hb2
  have m1:=((l1.keep hb1).alloc (.cells #[.int .i64 2,.int .i64 k] 64)).keep hb2
  have hbw : Below w.heap.size w w2:=bt (bal (bt ((Below.refl _ _).alloc (Nat.le_refl _) _) hb1) _) hb2
  clear hb2 hb1 l0 l1 a1 a2 a3 a4 hsz
  have g0:=fun x : Grown w2=>x.cell q0.1
  have g1:=fun x : Grown w2=>x.cell q1.1
  refine wp_region_grown_tail 2 (by kernel_rfl) (by kernel_rfl) ?_
  simp only [List.take_succ_cons,List.take_zero,List.drop_succ_cons,List.drop_zero]
  repeat (first | go_big_quiet_step (fail) | quiet_step (fail))
  refine wpQuiet_nil ?_
  intro _ hw'
  obtain ⟨xg,rfl⟩:=hw'
  obtain ⟨a1,a2⟩:=m0.keep xg.bel
  obtain ⟨a3,a4⟩:=m1.keep xg.bel
  have hbx:=bt hbw xg.bel
  clear g0 g1
  generalize xg.wd = W at *
  go_wp2_with fail
  refine bodyPost_ret (v:=.tuple #[.slice none 0 0,.agg #[.int .i64 2,.int .i64 k]]) (by simp [results,Tryz.results199,go_sem,a1,a2,a3,a4]) rfl ?_
  unfold PtsPost
  rw [HR.out]
  refine ⟨_,rfl,World.ownsRow_nil _ _ _ _,?_⟩
  exact (hbx.setCell (Nat.le_refl _) _).setCell (Nat.le_refl _) _
 | none=>
  have hn : n ≤ s.size:=by
   have:=scanF_bd (bl s).length (bl s) 0 0
   have e:=HR.out
   unfold scanL at e
   rw [e,bl_length] at this
   simpa using this
  have hnl : n = (pts (bl s)).length:=scanL_pts _ _ HR.out
  obtain ⟨i0,hi,hz0,hz1,hz2⟩:=info_parts infoRune
  obtain ⟨L,hL⟩ : ∃ L,L = pts (bl s):=⟨_,rfl⟩
  have HLs : Hid ((bl s).length = s.size):=bl_length s
  rw [← hL] at hnl
  have HN:=Lib.hid hnl
  have HL:=Lib.hid hL
  clear hnl hL
  simp only [faultV] at K1
  go_enter Tryz.func199,Tryz.ntmps199
  go_wp2_with (first
   | (go_at_call 250;refine (K1.out _ (hT.alloc _)).mono ?_;rintro e w1 ⟨rfl,hb1⟩;obtain ⟨a1,a2⟩:=l0.keep hb1;obtain ⟨a3,a4⟩:=l1.keep hb1;have hsz:=(Live.keep l0 hb1).lt)
   | (go_at_call 24;refine (K2.out _ _ _).mono ?_;rintro e w2 ⟨rfl,hb2⟩)
   | (refine wpList_make_own _ rfl _ _ 28 rfl _ 21 i0 (.int .i32 0) 1 Tryz.underlying28 hi hz0 hz1 .i64 .i64 (n : Int) n rfl rfl rfl (by rw [hz2];omega) (by unfold maxLen;omega) (Nat.le_refl _) ?_;intro W hown hgrow))
  have m0:=((l0.keep hb1).alloc (.cells #[.int .i64 0,.int .i64 0] 64)).keep hb2
  have m1:=((l1.keep hb1).alloc (.cells #[.int .i64 0,.int .i64 0] 64)).keep hb2
  have hbw : Below w.heap.size w w2:=bt (bal (bt ((Below.refl _ _).alloc (Nat.le_refl _) _) hb1) _) hb2
  have hbel : Below w2.heap.size w2 W:=(Below.refl _ _).grown hgrow (Nat.le_refl _) (by intro k hk;cases hk)
  have hown : OwnI W w2.heap.size (.slice (some ⟨w2.heap.size,0,none⟩) 0 n) []:=hown
  have hI0:=ItS.made W s
  have hB0 : Below w2.heap.size w2 (W.iter s 0):=hbel.alloc hbel.size _
  have hown0 : OwnI (W.iter s 0) w2.heap.size (.slice (some ⟨w2.heap.size,0,none⟩) 0 n) []:=orow_bel hown ((Below.refl _ _).alloc (Nat.le_refl _) _)
  have hW2 : w2.heap.size ≤ W.heap.size:=hbel.size
  clear hb2 hb1 l0 l1 a1 a2 a3 a4 hsz hgrow hbel hown
  generalize W.iter s 0 = W0 at *
  generalize W.heap.size = r at *
  go_loopw [6] (fun v wr=>∃ (k : Nat) (acc : List Int),OwnI wr w2.heap.size v acc ∧ ItS wr r s k ∧ k ≤ s.size ∧ acc.length ≤ k ∧ Hid (L = acc ++ pts ((bl s).drop k)) ∧ Below w2.heap.size w2 wr) (fun _ wr=>s.size - wr.iterPos r)
  case atStart=>exact ⟨0,[],hown0,hI0,Nat.zero_le _,Nat.le_refl _,by show L = _;rw [HL.out];rfl,hB0⟩
  case round=>
   obtain ⟨k,acc,hown,hI,hk,hacc,hLk,hbel⟩:=hrel
   have hne:=hI.ne hown
   have hpos:=hI.pos
   have hown3 : ∀ w' : World,(∀ j,j ≠ r → w'.heap[j]? = wr.heap[j]?) → w'.ownsRow w2.heap.size 21 1 _ acc.length (icells acc):=fun w' h=>orow_other hown (fun q hq=>h q (fun e=>hne (by rw [hq,e])))
   have HP:=Lib.hid hpos
   have HNE:=Lib.hid hne
   have HO3:=Lib.hid hown3
   clear hpos hne hown3
   clear hI0 hB0 hown0
   by_cases hlt : k < s.size
   · rcases hd : dec ((bl s).drop k) with ⟨c,j⟩
     have hdp:=dec_pos ((bl s).drop k)
     have hdr:=dec_rune ((bl s).drop k)
     have hne2 : (bl s).drop k ≠ []:=by
      intro e
      have:=congrArg List.length e
      rw [List.length_drop,HLs.out] at this
      simp at this;omega
     have hdl:=dec_le _ hne2
     have e1:=pts_cons _ hne2
     rw [List.length_drop,HLs.out] at hdl
     rw [hd] at hdp hdr hdl e1
     simp only at hdp hdr hdl e1
     rw [List.drop_drop] at e1
     have e2 : Hid (L = (acc ++ [(c : Int)]) ++ pts ((bl s).drop (k + j))):=by show L = _;rw [hLk.out,e1,List.append_assoc];rfl
     have HD:=Lib.hid hd
     clear hd
     clear hne2 e1 hLk
     go_wp2_with (first
      | (at_next;refine wpList_nextD rfl _ rfl wr r s k rfl hI hlt c j HD ?_;intro w3 hI3 ho3 hg3)
      | (at_builtin;go_loud (refine wpList_push1 rfl _ _ 28 21 rfl Tryz.underlying28 (.int .i32 0) 1 4 infoRune rfl (by decide) w3 w2.heap.size u6 acc.length (icells acc) rfl (HO3.out w3 ho3) #[.int .i32 (c : Int)] rfl (by simp [Value.oneCell']) rfl (by omega) (by omega) (Nat.le_trans hbel.size hg3.size) ?_;intro v' w4 hown4 hb4 hk4)))
     have hne4 : some r ≠ _:=HNE.out
     have hI4:=hI3.blk (hk4 r hI3.lt hne4)
     have hbw4 : Below w2.heap.size w2 w4:=(hbel.grown hg3 hbel.size (by intro q hq;cases hq;exact hW2)).trans hb4
     have hp4:=hI4.pos
     have hown5 : OwnI w4 w2.heap.size v' (acc ++ [(c : Int)]):=by unfold OwnI;rw [icells_append,List.length_append];exact hown4
     have HP4:=Lib.hid hp4
     clear hp4
     clear hne4 hown4
     go_roundw
     case rel=>exact ⟨k + j,acc ++ [(c : Int)],hown5,hI4,by omega,by rw [List.length_append];simp;omega,e2,hbw4⟩
     case measure=>rw [HP.out,HP4.out];omega
   · have hkk : k = s.size:=by omega
     subst hkk
     have e2 : Hid (L = acc):=by show L = _;rw [hLk.out,List.drop_of_length_le (by rw [HLs.out];exact Nat.le_refl _),pts_nil,List.append_nil]
     obtain ⟨a1,a2⟩:=(show Live wr w.heap.size 0 (.int .i64 0) from ⟨(hbel.cell (p:=⟨w.heap.size,0,none⟩) m0.lt).trans m0.1,(hbel.frozen (p:=⟨w.heap.size,0,none⟩) m0.lt).trans m0.2⟩)
     obtain ⟨a3,a4⟩:=(show Live wr w.heap.size 1 (.int .i64 0) from ⟨(hbel.cell (p:=⟨w.heap.size,1,none⟩) m0.lt).trans m1.1,(hbel.frozen (p:=⟨w.heap.size,1,none⟩) m0.lt).trans m1.2⟩)
     go_wp2_with (at_next;refine wpList_nextE rfl _ rfl wr r s s.size rfl hI (Nat.le_refl _) ?_)
     refine bodyPost_ret (v:=.tuple #[_,.agg #[.int .i64 0,.int .i64 0]]) (by simp [results,Tryz.results199,go_sem,a1,a2,a3,a4];rfl) rfl ?_
     unfold PtsPost
     rw [HR.out]
     refine ⟨_,rfl,?_,?_⟩
     · rw [if_pos rfl,← HL.out,e2.out]
       exact orow_mono (orow_other hown fun q hq=>by
        have h1:=(orow_blk hown q hq).1
        have : w.heap.size < w2.heap.size:=m0.lt
        rw [Below.heap_setCell _ _ _ _ (by simp;omega),Below.heap_setCell _ _ _ _ (by simp;omega)]) hbw.size
     · exact ((hbw.trans (hbel.mono hbw.size)).setCell (Nat.le_refl _) _).setCell (Nat.le_refl _) _
end Go.Proofs.YtohbeinhlhgfiaaGreatDoor
namespace Go.Proofs.YtohbeinhlhgfiaaGreatDoor
def Scal (p : Int) : Prop:=0 ≤ p ∧ p ≤ 1114111 ∧ (p < 55296 ∨ 57343 < p)
theorem u8n (z : Int) (h0 : 0 ≤ z) (h1 : z < 256) : (z.toNat.toUInt8).toNat = z.toNat:=by
 show (UInt8.ofNat z.toNat).toNat = _
 rw [UInt8.toNat_ofNat']
 omega
theorem dec_encR (p : Int) (hp : Scal p) (l : List UInt8) : dec (encR p ++ l) = (p.toNat,(encR p).length):=by
 obtain ⟨h0,h1,h2⟩:=hp
 unfold dec encR Lib.encodeRune
 by_cases a : p ≤ 127
 · rw [Lib.encodeRuneZ_one h0 a]
   simp only [List.map_cons,List.map_nil,List.cons_append,List.nil_append,List.getD_cons_zero,List.length_cons,List.length_nil]
   rw [u8n p h0 (by omega)]
   unfold Lib.decodeN
   rw [if_pos (by omega)]
 by_cases b : p ≤ 2047
 · rw [Lib.encodeRuneZ_two (by omega) b]
   simp only [List.map_cons,List.map_nil,List.cons_append,List.nil_append,List.getD_cons_zero,List.getD_cons_succ,List.length_cons,List.length_nil]
   rw [u8n _ (by omega) (by omega),u8n _ (by omega) (by omega)]
   unfold Lib.decodeN
   rw [if_neg (by omega),if_pos (by omega),if_pos (by omega)]
   refine Prod.ext ?_ rfl
   show _ = p.toNat
   omega
 by_cases c : p ≤ 65535
 · rw [Lib.encodeRuneZ_three (by omega)]
   simp only [List.map_cons,List.map_nil,List.cons_append,List.nil_append,List.getD_cons_zero,List.getD_cons_succ,List.length_cons,List.length_nil]
   rw [u8n _ (by omega) (by omega),u8n _ (by omega) (by omega),u8n _ (by omega) (by omega)]
   unfold Lib.decodeN
   rw [if_neg (by omega),if_neg (by omega),if_pos (by omega),if_pos (by omega)]
   refine Prod.ext ?_ rfl
   show _ = p.toNat
   omega
 · rw [Lib.encodeRuneZ_four (by omega) h1]
   simp only [List.map_cons,List.map_nil,List.cons_append,List.nil_append,List.getD_cons_zero,List.getD_cons_succ,List.length_cons,List.length_nil]
   rw [u8n _ (by omega) (by omega),u8n _ (by omega) (by omega),u8n _ (by omega) (by omega),u8n _ (by omega) (by omega)]
   unfold Lib.decodeN
   rw [if_neg (by omega),if_neg (by omega),if_neg (by omega),if_pos (by omega),if_pos (by omega)]
   refine Prod.ext ?_ rfl
   show _ = p.toNat
   omega
theorem encR_ne (p : Int) (l : List UInt8) : encR p ++ l ≠ []:=by
 have h1:=(encR_len p).1
 intro e
 have h2:=congrArg List.length e
 rw [List.length_append] at h2
 simp only [List.length_nil] at h2;omega
theorem bad_encR (p : Int) (hp : Scal p) (l : List UInt8) : badDec (encR p ++ l) = false:=by
 unfold badDec
 rw [dec_encR p hp l]
 simp only [Bool.and_eq_false_iff,decide_eq_false_iff_not]
 by_cases h : p = 65533
 · right
   subst h
   have : (encR 65533).length = 3:=by kernel_rfl
   omega
 · left;obtain ⟨h0,_⟩:=hp;omega
def encL (l : List Int) : List UInt8:=l.flatMap encR
theorem encL_cons (p : Int) (l : List Int) : encL (p :: l) = encR p ++ encL l:=by simp [encL]
theorem pts_encR (p : Int) (hp : Scal p) (l : List UInt8) : pts (encR p ++ l) = p :: pts l:=by
 rw [pts_cons _ (encR_ne p l),dec_encR p hp l]
 obtain ⟨h0,_⟩:=hp
 simp only [List.drop_left]
 rw [Int.toNat_of_nonneg h0]
theorem pts_encL (a : List Int) (h : ∀ p ∈ a,Scal p) (l : List UInt8) : pts (encL a ++ l) = a ++ pts l:=by
 induction a with
 | nil=>simp [encL]
 | cons p a ih=>
  rw [encL_cons,List.append_assoc,pts_encR p (h p (List.mem_cons_self ..)),ih fun q hq=>h q (List.mem_cons_of_mem _ hq)]
  rfl
theorem pts_encL' (a : List Int) (h : ∀ p ∈ a,Scal p) : pts (encL a) = a:=by
 have:=pts_encL a h []
 rwa [List.append_nil,pts_nil,List.append_nil] at this
theorem scan_encL (a : List Int) (h : ∀ p ∈ a,Scal p) : ∀ (f at_ n : Nat),(encL a).length ≤ f → scanF f (encL a) at_ n = (n + a.length,none):=by
 induction a with
 | nil=>intro f at_ n _;rw [show encL [] = [] from rfl,scanF_nil];rfl
 | cons p a ih=>
  intro f at_ n hf
  have hp:=h p (List.mem_cons_self ..)
  have hl:=encR_len p
  rw [encL_cons] at hf ⊢
  rw [List.length_append] at hf
  obtain ⟨f,rfl⟩ : ∃ g,f = g + 1:=⟨f - 1,by omega⟩
  rw [scanF_step f _ at_ n (encR_ne p _) (bad_encR p hp _),dec_encR p hp]
  simp only [List.drop_left]
  rw [ih (fun q hq=>h q (List.mem_cons_of_mem _ hq)) f _ _ (by omega)]
  simp only [List.length_cons,Prod.mk.injEq,and_true];omega
theorem scanL_encL (a : List Int) (h : ∀ p ∈ a,Scal p) : scanL (encL a) = (a.length,none):=by
 unfold scanL
 rw [scan_encL a h _ _ _ (Nat.le_refl _)]
 simp
end Go.Proofs.YtohbeinhlhgfiaaGreatDoor
namespace Go.Proofs.YtohbeinhlhgfiaaGreatDoor
open Go.RowKit
theorem text_233 : textM [233] = ([195,169],true):=by decide +kernel
theorem scan_aca : scanL (bl ⟨#[97,195,97]⟩) = (0,some 1):=by decide +kernel
theorem awake02_any (w : World) (hT : TW w) : Calls Tryz.prog 130 #[] w fun e w'=>e = .returned (.bool true) ∧ Below w.heap.size w w':=by
 have k1:=fun w t=>text_any _ [233] _ (row_one w 233 t) (by simp)
 have k2 : ∀ w,TW w → Calls Tryz.prog 199 #[.string ⟨#[97,195,97]⟩] w fun e w'=>∃ v,e = .returned (.tuple #[v,.agg #[.int .i64 2,.int .i64 1]]) ∧ Below w.heap.size w w':=fun w hT=>
  (points_any ⟨#[97,195,97]⟩ w hT (by decide)).mono fun e w' ⟨v,he,ho,hb⟩=>⟨v,by rw [he,scan_aca];rfl,hb⟩
 have k3:=eqFault 2 1 2 1
 have k4:=fun op x y w=>guardFault op x y #[.int .i64 2,.int .i64 1] #[.int .i64 2,.int .i64 1] w
 rw [text_233] at k1
 have K1:=Lib.hid k1
 have K2:=Lib.hid k2
 clear k1 k2
 go_enter Tryz.func130,Tryz.ntmps130
 go_wp2_with (first
  | (go_at_call 198;refine (K1.out _ _).mono ?_;rintro e w1 ⟨rfl,hb1⟩)
  | (go_at_call 199;refine (K2.out _ ((hT.alloc _).bel hb1)).mono ?_;rintro e w2 ⟨v,rfl,hb2⟩))
 go_ret
 exact ⟨rfl,bal (bt (bt ((Below.refl _ _).alloc (Nat.le_refl _) _) hb1) hb2) _⟩
theorem bsigns_62 : bSignsM 136 98 = ([195,138,204,132],true):=by decide +kernel
theorem bbytes_ca : bBytesM [202,65] = ([136,102],1):=by decide +kernel
theorem row_two0 (w : World) (p q : Int) (t : TypeId) : Row (w.alloc (.cells #[.int .i32 p,.int .i32 q] t)) (.slice (some ⟨w.heap.size,0,none⟩) 2 2) 2 (icells [p,q]):=by
 refine ⟨_,_,rfl,fun j y hj=>⟨w.heap.size,0,rfl,?_⟩⟩
 match j,hj with
 | 0,hj=>simp [icells] at hj;subst hj;rw [World.cell?_alloc_new];rfl
 | 1,hj=>simp [icells] at hj;subst hj;rw [World.cell?_alloc_new];rfl
theorem awake08_any (w : World) (hT : TW w) : Calls Tryz.prog 208 #[] w fun e w'=>e = .returned (.bool true) ∧ Below w.heap.size w w':=by
 have k1:=fun w=>bsigns_any 136 98 w (by omega) (by omega) (by omega) (by omega)
 have k2:=fun w t hT=>bbytes_any _ [202,65] _ hT (row_two0 w 202 65 t) (by simp) (by decide)
 rw [bsigns_62] at k1
 rw [bbytes_ca] at k2
 have K1:=Lib.hid k1
 have K2:=Lib.hid k2
 clear k1 k2
 go_enter Tryz.func208,Tryz.ntmps208
 go_wp2_with (first
  | (go_at_call 264;refine (K1.out _).mono ?_;rintro e w1 ⟨rfl,hb1⟩)
  | (go_at_call 265;refine (K2.out _ _ ((hT.bel hb1).alloc _)).mono ?_;rintro e w2 ⟨rfl,hb2⟩))
 go_ret
 exact ⟨rfl,bt (bal hb1 _) hb2⟩
end Go.Proofs.YtohbeinhlhgfiaaGreatDoor
