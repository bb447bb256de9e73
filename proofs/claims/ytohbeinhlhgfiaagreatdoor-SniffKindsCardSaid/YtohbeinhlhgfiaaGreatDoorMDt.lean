/- Dt -/
import Derived.Test.YtohbeinhlhgfiaaGreatDoorMTm
set_option linter.unusedVariables false
set_option linter.unusedSimpArgs false
set_option maxHeartbeats 8000000
namespace Go.Proofs.YtohbeinhlhgfiaaGreatDoor
open Go.RowKit
noncomputable def scoreF (c : Int) : Bool → List Int → Int → Int
 | _,[],n=>n
 | s,p :: l,n=>scoreF c (letterB p) l (n + weightM c p - (if s && capitalB p then 3 else 0))
noncomputable def scoreM (c : Int) (t : List UInt8) : Int:=scoreF c false (pts t) 0
noncomputable def scoreR (c : Int) (l : List UInt8) : Option Int:=if 0 ≤ c ∧ c ≤ 6 then (match decT (tokC c) l with | (t,none)=>some (scoreM c t) | (_,some _)=>none) else none
def scoreV : Option Int → Value
 | some n=>.tuple #[.int .i64 n,.bool true]
 | none=>.tuple #[.int .i64 0,.bool false]
def ScPost (r : Option Int) (w : World) (e : Ending) (w' : World) : Prop:=e = .returned (scoreV r) ∧ Below w.heap.size w w'
noncomputable def wMemo (c : Int) : Value → Value
 | .int .i32 p=>.int .i64 (weightM c p)
 | v=>v
theorem scoreF_cons (c : Int) (s : Bool) (p : Int) (l : List Int) (n : Int) : scoreF c s (p :: l) n = scoreF c (letterB p) l (n + weightM c p - (if s && capitalB p then 3 else 0)):=rfl
theorem zeroInt (w : World) : (zeroValue 3).run Tryz.prog w = .ok (.int .i64 0) w:=by simp [zeroValue,Tryz.underlying3,go_sem];rfl
set_option maxRecDepth 100000 in
theorem score_good (c : Int) (b tb : ByteArray) (w : World) (hT : TW w) (hb : b.size ≤ 1048576) (h0 : 0 ≤ c) (h1 : c ≤ 6) (hd : decT (tokC c) (bl b) = (bl tb,none)) :
 Calls Tryz.prog 131 #[.int .i64 c,.string b] w (ScPost (some (scoreM c (bl tb))) w):=by
 have k1:=fun w=>legacy_any c w
 rw [show decide (0 ≤ c ∧ c ≤ 6) = true by simp [h0,h1]] at k1
 have k2:=fun w hT=>cdecode_any c b w hT (by omega)
 rw [decV_in c _ (by omega),hd] at k2
 simp only [faultV] at k2
 rw [show (⟨(bl tb).toArray⟩ : ByteArray) = tb from mk_list tb] at k2
 have k3 : ∀ w,Calls Tryz.prog 24 #[.agg #[.int .i64 0,.int .i64 0]] w fun e w'=>e = .returned (.bool false) ∧ Below w.heap.size w w':=fun w=>bad_any 0 0 w
 have k4:=fun p w hp0 hp1=>weight_any c p w h0 h1 hp0 hp1
 have hts : tb.size ≤ 1073741824:=by
  have:=decT_short (short_C c) (bl b)
  rw [hd,bl_length,bl_length] at this
  omega
 obtain ⟨R,hR⟩ : ∃ R,R = scoreM c (bl tb):=⟨_,rfl⟩
 rw [← hR]
 have K1:=Lib.hid k1
 have K2:=Lib.hid k2
 have K3:=Lib.hid k3
 have K4:=Lib.hid k4
 have HR:=Lib.hid hR
 have HT:=Lib.hid hT
 clear k1 k2 k3 k4 hR hT
 clear hd
 have HBL : Hid ((bl tb).length = tb.size):=bl_length tb
 go_enter Tryz.func131,Tryz.ntmps131
 go_wp2_with (first
  | (go_at_call 200;refine (K1.out _).mono ?_;rintro e w0 ⟨rfl,hb0⟩)
  | (go_at_call 192;refine (K2.out _ (HT.out.bel hb0)).mono ?_;rintro e w1 ⟨rfl,hb1⟩)
  | (go_at_call 24;refine (K3.out _).mono ?_;rintro e w2 ⟨rfl,hb2⟩)
  | (refine wpList_mapNew rfl _ rfl _ ?_))
 have hbw:=bt (bal (bt hb0 hb1) _) hb2
 have hM0:=MemoG.made 21 (wMemo c) w2
 have hbi : Below (w2.alloc (.map #[] 0)).heap.size (w2.alloc (.map #[] 0)) ((w2.alloc (.map #[] 0)).iter tb 0):=(Below.refl _ _).alloc (Nat.le_refl _) _
 have hI0:=ItS.made (w2.alloc (.map #[] 0)) tb
 have hM1:=hM0.bel hbi
 have hB1 : Below w2.heap.size w2 ((w2.alloc (.map #[] 0)).iter tb 0):=bt (bal (Below.refl _ _) _) hbi
 have hrs : (w2.alloc (.map #[] 0)).heap.size = w2.heap.size + 1:=World.size_alloc _ _
 generalize (w2.alloc (.map #[] 0)).iter tb 0 = W0 at *
 rw [hrs] at hI0
 clear hbi hM0 hrs hb0 hb1 hb2
 go_loopw [9,10] (fun nv sv wr=>∃ (k : Nat) (s : Bool) (n : Int),nv = .int .i64 n ∧ sv = .bool s ∧ ItS wr (w2.heap.size + 1) tb k ∧ k ≤ tb.size ∧ Hid (scoreF c s (pts ((bl tb).drop k)) n = R) ∧ -11 * (k : Int) ≤ n ∧ n ≤ 6 * (k : Int) ∧ MemoG 21 (wMemo c) wr w2.heap.size ∧ Below w2.heap.size w2 wr) (fun _ _ wr=>tb.size - wr.iterPos (w2.heap.size + 1))
 case atStart=>exact ⟨0,false,0,rfl,rfl,hI0,Nat.zero_le _,by have:=HR.out;unfold scoreM at this;rw [List.drop_zero];exact Lib.hid this.symm,by omega,by omega,hM1,hB1⟩
 case round=>
  obtain ⟨k,s,n,rfl,rfl,hI,hk,hRT,hn0,hn1,hM,hbel⟩:=hrel
  have hpos:=hI.pos
  have HPOS:=Lib.hid hpos
  clear hpos
  by_cases hlt : k < tb.size
  · rcases hd : dec ((bl tb).drop k) with ⟨p,j⟩
    have hdp:=dec_pos ((bl tb).drop k)
    have hdr:=dec_rune ((bl tb).drop k)
    have hne2 : (bl tb).drop k ≠ []:=drop_ne (by rw [HBL.out];exact hlt)
    have hdl:=dec_le _ hne2
    rw [List.length_drop,HBL.out] at hdl
    have hp:=pts_cons _ hne2
    rw [List.drop_drop] at hp
    rw [hd] at hdp hdr hdl hp
    simp only at hdp hdr hdl hp
    have e1:=hRT.out
    rw [hp,scoreF_cons] at e1
    have hwb:=weight_bd c p
    have hkey:=keyR p (by omega) (by omega)
    have hF : Hid (wMemo c (.int .i32 p) = .int .i64 (weightM c p)):=rfl
    have k4:=fun w=>K4.out p w (by omega) (by omega)
    have k5:=fun w=>letter_any p w
    have k6:=fun w=>capital_any p w
    generalize weightM c p = W at *
    generalize letterB p = L at *
    generalize capitalB p = C at *
    have hw1 : IntKind.i64.wrap (n + W) = n + W:=wi64 _ (by omega) (by omega)
    have hw2 : IntKind.i64.wrap (n + W - 3) = n + W - 3:=wi64 _ (by omega) (by omega)
    have hM3 : ∀ w' : World,(∀ j,j ≠ w2.heap.size + 1 → w'.heap[j]? = wr.heap[j]?) → MemoG 21 (wMemo c) w' w2.heap.size:=fun w' h=>hM.blk (h _ (by omega))
    have K4':=Lib.hid k4
    have K5:=Lib.hid k5
    have K6:=Lib.hid k6
    have HW1:=Lib.hid hw1
    have HW2:=Lib.hid hw2
    have HM3:=Lib.hid hM3
    have HKEY:=Lib.hid hkey
    clear k4 k5 k6 hw1 hw2 hM3 hkey
    clear hp hne2 hRT
    cases s
    · have e1 : scoreF c L (pts ((bl tb).drop (k + j))) (n + W) = R:=by simpa using e1
      have E1:=Lib.hid e1
      have HDC:=Lib.hid hd
      clear e1 hd
      go_wp2_with (first
       | (at_next;refine wpList_nextD rfl _ rfl wr (w2.heap.size + 1) tb k rfl hI hlt p j HDC ?_;intro w3 IW ho3 hg3;have MW:=HM3.out w3 ho3;have BW:=hbel.grown hg3 hbel.size (by intro q hq;cases hq;omega))
       | (at_lookup;go_loud (refine wpList_lookG w3 rfl 229 _ _ rfl 21 3 keyedR Tryz.underlying229 (.int .i64 0) (zeroInt w3) (wMemo c) w2.heap.size rfl MW (.int .i32 p) _ rfl HKEY.out (.int .i64 W) hF ?_ ?_))
       | (go_at_call 201;refine (K4'.out _).mono ?_;rintro e w4 ⟨rfl,hb4⟩;have IW:=IW.bel hb4;have MW:=MW.bel hb4;have BW:=bt BW hb4)
       | (at_mapUpdate;go_loud (refine wpList_storeG w4 rfl 229 _ _ _ rfl 21 3 keyedR Tryz.underlying229 (wMemo c) w2.heap.size rfl MW (.int .i32 p) (.int .i64 W) _ rfl HKEY.out rfl hF ?_;intro w5 MW5 hg5;have IW:=IW.grown hg5 (by simp);have MW:=MW5;have BW:=BW.grown hg5 BW.size (by intro q hq;cases hq;omega)))
       | (go_at_call 203;refine (K5.out _).mono ?_;rintro e w6 ⟨rfl,rfl⟩)
       | (go_at_call 202;refine (K6.out _).mono ?_;rintro e w6 ⟨rfl,rfl⟩))
      all_goals exact ⟨⟨k + j,L,_,rfl,rfl,IW,by omega,E1,by omega,by omega,MW,BW⟩,by rw [HPOS.out,IW.pos];omega⟩
    · cases C
      · have e1 : scoreF c L (pts ((bl tb).drop (k + j))) (n + W) = R:=by simpa using e1
        have E1:=Lib.hid e1
        have HDC:=Lib.hid hd
        clear e1 hd
        go_wp2_with (first
         | (at_next;refine wpList_nextD rfl _ rfl wr (w2.heap.size + 1) tb k rfl hI hlt p j HDC ?_;intro w3 IW ho3 hg3;have MW:=HM3.out w3 ho3;have BW:=hbel.grown hg3 hbel.size (by intro q hq;cases hq;omega))
         | (at_lookup;go_loud (refine wpList_lookG w3 rfl 229 _ _ rfl 21 3 keyedR Tryz.underlying229 (.int .i64 0) (zeroInt w3) (wMemo c) w2.heap.size rfl MW (.int .i32 p) _ rfl HKEY.out (.int .i64 W) hF ?_ ?_))
         | (go_at_call 201;refine (K4'.out _).mono ?_;rintro e w4 ⟨rfl,hb4⟩;have IW:=IW.bel hb4;have MW:=MW.bel hb4;have BW:=bt BW hb4)
         | (at_mapUpdate;go_loud (refine wpList_storeG w4 rfl 229 _ _ _ rfl 21 3 keyedR Tryz.underlying229 (wMemo c) w2.heap.size rfl MW (.int .i32 p) (.int .i64 W) _ rfl HKEY.out rfl hF ?_;intro w5 MW5 hg5;have IW:=IW.grown hg5 (by simp);have MW:=MW5;have BW:=BW.grown hg5 BW.size (by intro q hq;cases hq;omega)))
         | (go_at_call 203;refine (K5.out _).mono ?_;rintro e w6 ⟨rfl,rfl⟩)
         | (go_at_call 202;refine (K6.out _).mono ?_;rintro e w6 ⟨rfl,rfl⟩))
        all_goals exact ⟨⟨k + j,L,_,rfl,rfl,IW,by omega,E1,by omega,by omega,MW,BW⟩,by rw [HPOS.out,IW.pos];omega⟩
      · have e1 : scoreF c L (pts ((bl tb).drop (k + j))) (n + W - 3) = R:=by simpa using e1
        have E1:=Lib.hid e1
        have HDC:=Lib.hid hd
        clear e1 hd
        go_wp2_with (first
         | (at_next;refine wpList_nextD rfl _ rfl wr (w2.heap.size + 1) tb k rfl hI hlt p j HDC ?_;intro w3 IW ho3 hg3;have MW:=HM3.out w3 ho3;have BW:=hbel.grown hg3 hbel.size (by intro q hq;cases hq;omega))
         | (at_lookup;go_loud (refine wpList_lookG w3 rfl 229 _ _ rfl 21 3 keyedR Tryz.underlying229 (.int .i64 0) (zeroInt w3) (wMemo c) w2.heap.size rfl MW (.int .i32 p) _ rfl HKEY.out (.int .i64 W) hF ?_ ?_))
         | (go_at_call 201;refine (K4'.out _).mono ?_;rintro e w4 ⟨rfl,hb4⟩;have IW:=IW.bel hb4;have MW:=MW.bel hb4;have BW:=bt BW hb4)
         | (at_mapUpdate;go_loud (refine wpList_storeG w4 rfl 229 _ _ _ rfl 21 3 keyedR Tryz.underlying229 (wMemo c) w2.heap.size rfl MW (.int .i32 p) (.int .i64 W) _ rfl HKEY.out rfl hF ?_;intro w5 MW5 hg5;have IW:=IW.grown hg5 (by simp);have MW:=MW5;have BW:=BW.grown hg5 BW.size (by intro q hq;cases hq;omega)))
         | (go_at_call 203;refine (K5.out _).mono ?_;rintro e w6 ⟨rfl,rfl⟩)
         | (go_at_call 202;refine (K6.out _).mono ?_;rintro e w6 ⟨rfl,rfl⟩))
        all_goals exact ⟨⟨k + j,L,_,rfl,rfl,IW,by omega,E1,by omega,by omega,MW,BW⟩,by rw [HPOS.out,IW.pos];omega⟩
  · have hkk : k = tb.size:=by omega
    subst hkk
    have e1:=hRT.out
    rw [List.drop_of_length_le (by rw [HBL.out];exact Nat.le_refl _),pts_nil] at e1
    have e2 : n = R:=e1
    have E2:=Lib.hid e2
    clear e2
    clear e1 hRT
    go_wp2_with (at_next;refine wpList_nextE rfl _ rfl wr (w2.heap.size + 1) tb tb.size rfl hI (Nat.le_refl _) ?_)
    refine bodyPost_ret (v:=.tuple #[.int .i64 n,.bool true]) (by simp [results,Tryz.results131,go_sem]) rfl ?_
    refine (show ScPost _ _ _ _ from ⟨by rw [← E2.out];rfl,hbw.trans (hbel.mono hbw.size)⟩)
theorem score_not (c : Int) (b : ByteArray) (w : World) (h : ¬ (0 ≤ c ∧ c ≤ 6)) : Calls Tryz.prog 131 #[.int .i64 c,.string b] w (ScPost none w):=by
 have k1:=fun w=>legacy_any c w
 rw [show decide (0 ≤ c ∧ c ≤ 6) = false by simpa using h] at k1
 have K1:=Lib.hid k1
 clear k1
 clear h
 go_enter Tryz.func131,Tryz.ntmps131
 go_wp2_with (go_at_call 200;refine (K1.out _).mono ?_;rintro e w0 ⟨rfl,hb0⟩)
 refine bodyPost_ret (v:=.tuple #[.int .i64 0,.bool false]) (by simp [results,Tryz.results131,go_sem]) rfl ?_
 exact (show ScPost _ _ _ _ from ⟨rfl,hb0⟩)
theorem score_bad (c : Int) (b : ByteArray) (w : World) (hT : TW w) (hb : b.size ≤ 1048576) (h0 : 0 ≤ c) (h1 : c ≤ 6) (t : List UInt8) (k : Nat) (hd : decT (tokC c) (bl b) = (t,some k)) : Calls Tryz.prog 131 #[.int .i64 c,.string b] w (ScPost none w):=by
 have k1:=fun w=>legacy_any c w
 rw [show decide (0 ≤ c ∧ c ≤ 6) = true by simp [h0,h1]] at k1
 have k2:=fun w hT=>cdecode_any c b w hT (by omega)
 rw [decV_in c _ (by omega),hd] at k2
 simp only [faultV] at k2
 have k3 : ∀ w,Calls Tryz.prog 24 #[.agg #[.int .i64 2,.int .i64 k]] w fun e w'=>e = .returned (.bool true) ∧ Below w.heap.size w w':=fun w=>bad_any 2 k w
 have K1:=Lib.hid k1
 have K2:=Lib.hid k2
 have K3:=Lib.hid k3
 have HT:=Lib.hid hT
 clear k1 k2 k3 hT
 clear hd
 go_enter Tryz.func131,Tryz.ntmps131
 go_wp2_with (first
  | (go_at_call 200;refine (K1.out _).mono ?_;rintro e w0 ⟨rfl,hb0⟩)
  | (go_at_call 192;refine (K2.out _ (HT.out.bel hb0)).mono ?_;rintro e w1 ⟨rfl,hb1⟩)
  | (go_at_call 24;refine (K3.out _).mono ?_;rintro e w2 ⟨rfl,hb2⟩))
 refine bodyPost_ret (v:=.tuple #[.int .i64 0,.bool false]) (by simp [results,Tryz.results131,go_sem]) rfl ?_
 exact (show ScPost _ _ _ _ from ⟨rfl,bt (bal (bt hb0 hb1) _) hb2⟩)
theorem score_any (c : Int) (b : ByteArray) (w : World) (hT : TW w) (hb : b.size ≤ 1048576) : Calls Tryz.prog 131 #[.int .i64 c,.string b] w (ScPost (scoreR c (bl b)) w):=by
 by_cases h : 0 ≤ c ∧ c ≤ 6
 · rcases hd : decT (tokC c) (bl b) with ⟨t,_ | k⟩
   · have e : scoreR c (bl b) = some (scoreM c t):=by unfold scoreR;rw [if_pos h,hd]
     rw [e]
     exact score_good c b ⟨t.toArray⟩ w hT hb h.1 h.2 hd
   · have e : scoreR c (bl b) = none:=by unfold scoreR;rw [if_pos h,hd]
     rw [e]
     exact score_bad c b w hT hb h.1 h.2 t k hd
 · have e : scoreR c (bl b) = none:=by unfold scoreR;rw [if_neg h]
   rw [e]
   exact score_not c b w h
def guessF (S : Int → Option Int) : List Int → Int × Int × Bool → Int × Int × Bool
 | [],st=>st
 | c :: l,(best,g,f)=>match S c with
  | some n=>if best < n then guessF S l (n,c,true) else guessF S l (best,g,f)
  | none=>guessF S l (best,g,f)
noncomputable def guessR (b : List UInt8) (l : List Int) : Int × Int × Bool:=guessF (fun c=>scoreR c b) l (0,0,false)
theorem guessF_none {S : Int → Option Int} {c : Int} (h : S c = none) (l : List Int) (a g : Int) (f : Bool) : guessF S (c :: l) (a,g,f) = guessF S l (a,g,f):=by rw [guessF,h]
theorem guessF_less {S : Int → Option Int} {c n : Int} (h : S c = some n) (l : List Int) (a g : Int) (f : Bool) (hl : ¬ a < n) : guessF S (c :: l) (a,g,f) = guessF S l (a,g,f):=by rw [guessF,h];simp only;rw [if_neg hl]
theorem guessF_more {S : Int → Option Int} {c n : Int} (h : S c = some n) (l : List Int) (a g : Int) (f : Bool) (hl : a < n) : guessF S (c :: l) (a,g,f) = guessF S l (n,c,true):=by rw [guessF,h];simp only;rw [if_pos hl]
def ccells (l : List Int) : List Value:=l.map fun c=>Value.int .i64 c
def GuPost (r : Int × Int × Bool) (w : World) (e : Ending) (w' : World) : Prop:=e = .returned (.tuple #[.int .i64 r.2.1,.bool r.2.2]) ∧ Below w.heap.size w w'
set_option maxRecDepth 100000 in
theorem guess_any (b : ByteArray) (v : Value) (l : List Int) (w : World) (hT : TW w) (hb : b.size ≤ 1048576) (hrow : Row w v l.length (ccells l)) (hl : l.length ≤ 1073741824) :
 Calls Tryz.prog 132 #[.string b,v] w (GuPost (guessR (bl b) l) w):=by
 have k1:=fun c w hT=>score_any c b w hT hb
 obtain ⟨R,hR⟩ : ∃ R,R = guessR (bl b) l:=⟨_,rfl⟩
 rw [← hR]
 unfold guessR at hR
 obtain ⟨S,hS⟩ : ∃ S : Int → Option Int,S = fun c=>scoreR c (bl b):=⟨_,rfl⟩
 rw [← hS] at hR
 have k2 : ∀ c w,TW w → Calls Tryz.prog 131 #[.int .i64 c,.string b] w (ScPost (S c) w):=by rw [hS];exact k1
 obtain ⟨n,hn⟩ : ∃ n,n = l.length:=⟨_,rfl⟩
 rw [← hn] at hrow hl
 have hrow2:=hrow
 obtain ⟨a,cap,rfl,_⟩:=hrow2
 have K2:=Lib.hid k2
 have HR:=Lib.hid hR
 have HT:=Lib.hid hT
 have HROW:=Lib.hid hrow
 have HN:=Lib.hid hn
 clear k2 hR hT hrow hn
 clear k1 hS
 go_enter Tryz.func132,Tryz.ntmps132
 go_wp2
 go_loopw [15,6,7,8] (fun iv bv fv gv wr=>∃ (i : Nat) (best g : Int) (f : Bool),iv = .int .i64 (i : Int) ∧ bv = .int .i64 best ∧ fv = .bool f ∧ gv = .int .i64 g ∧ i ≤ n ∧ Hid (guessF S (l.drop i) (best,g,f) = R) ∧ Below w.heap.size w wr) (fun iv _ _ _ _=>n - (intOf iv).toNat)
 case atStart=>exact ⟨0,0,0,false,rfl,rfl,rfl,rfl,Nat.zero_le _,Lib.hid (by rw [List.drop_zero];exact HR.out.symm),Below.refl _ _⟩
 case round=>
  obtain ⟨i,best,g,f,rfl,rfl,rfl,rfl,hi,hG,hbel⟩:=hrel
  by_cases hlt : i < n
  · obtain ⟨c,hc⟩:=at_some l i (by rw [← HN.out];exact hlt)
    obtain ⟨gb,o,cap',he,hcell⟩:=row_at (HROW.out.keep hbel) i (.int .i64 c) (by unfold ccells;rw [List.getElem?_map,hc];rfl)
    simp only [Value.slice.injEq] at he
    obtain ⟨rfl,_,rfl⟩:=he
    have hd:=drop_at l i (List.getElem?_eq_some_iff.1 hc).1
    rw [(List.getElem?_eq_some_iff.1 hc).2] at hd
    have e1:=hG.out
    rw [hd] at e1
    cases hs : S c with
    | none=>
     have k3 : ∀ w,TW w → Calls Tryz.prog 131 #[.int .i64 c,.string b] w fun e w'=>e = .returned (.tuple #[.int .i64 0,.bool false]) ∧ Below w.heap.size w w':=by
      intro w hT;have:=K2.out c w hT;rw [hs] at this;exact this
     rw [guessF_none hs] at e1
     have K3:=Lib.hid k3
     have E1:=Lib.hid e1
     clear k3 e1
     clear hs hc hd hG
     go_wp2_with (go_at_call 131;refine (K3.out _ (HT.out.bel hbel)).mono ?_;rintro e w1 ⟨rfl,hb1⟩)
     go_roundw
     case rel=>exact ⟨i + 1,best,g,f,by go_num,rfl,rfl,rfl,by omega,E1,bt hbel hb1⟩
     case measure=>simp [intOf];omega
    | some m=>
     have k3 : ∀ w,TW w → Calls Tryz.prog 131 #[.int .i64 c,.string b] w fun e w'=>e = .returned (.tuple #[.int .i64 m,.bool true]) ∧ Below w.heap.size w w':=by
      intro w hT;have:=K2.out c w hT;rw [hs] at this;exact this
     by_cases hm : best < m
     · rw [guessF_more hs _ _ _ _ hm] at e1
       have hmB : decide (best < m) = true:=by simpa using hm
       have K3:=Lib.hid k3
       have E1:=Lib.hid e1
       clear k3 e1
       clear hs hc hd hG
       go_wp2_with (go_at_call 131;refine (K3.out _ (HT.out.bel hbel)).mono ?_;rintro e w1 ⟨rfl,hb1⟩)
       go_roundw
       case rel=>exact ⟨i + 1,m,c,true,by go_num,rfl,rfl,rfl,by omega,E1,bt hbel hb1⟩
       case measure=>simp [intOf];omega
     · rw [guessF_less hs _ _ _ _ hm] at e1
       have hmB : decide (best < m) = false:=by simpa using hm
       have K3:=Lib.hid k3
       have E1:=Lib.hid e1
       clear k3 e1
       clear hs hc hd hG
       go_wp2_with (go_at_call 131;refine (K3.out _ (HT.out.bel hbel)).mono ?_;rintro e w1 ⟨rfl,hb1⟩)
       go_roundw
       case rel=>exact ⟨i + 1,best,g,f,by go_num,rfl,rfl,rfl,by omega,E1,bt hbel hb1⟩
       case measure=>simp [intOf];omega
  · have hin : i = n:=by omega
    subst hin
    have e1:=hG.out
    rw [List.drop_of_length_le (by rw [← HN.out];exact Nat.le_refl _),guessF] at e1
    have E1:=Lib.hid e1
    clear e1
    clear hG
    go_wp2
    refine bodyPost_ret (v:=.tuple #[.int .i64 g,.bool f]) (by simp [results,Tryz.results132,go_sem]) rfl ?_
    exact (show GuPost _ _ _ _ from ⟨by rw [← E1.out],hbel⟩)
def orderL : List Int:=[4,6,5,1,2,3,0]
theorem order_any (w : World) : Calls Tryz.prog 133 #[] w fun e w'=>∃ v,e = .returned v ∧ Row w' v 7 (ccells orderL) ∧ Below w.heap.size w w':=by
 go_enter Tryz.func133,Tryz.ntmps133
 go_wp2
 go_ret
 exact ⟨_,rfl,row_lits w #[.int .i64 4,.int .i64 6,.int .i64 5,.int .i64 1,.int .i64 2,.int .i64 3,.int .i64 0] 39,bal (Below.refl _ _) _⟩
end Go.Proofs.YtohbeinhlhgfiaaGreatDoor
