/- Tv -/
import Derived.Test.YtnbglcaeekppjaaGreatDoorShelf3
import Derived.Test.YtnbglcaeekppjaaGreatDoorMDt
set_option linter.unusedVariables false
set_option linter.unusedSimpArgs false
set_option maxHeartbeats 4000000
namespace Go.Proofs.YtnbglcaeekppjaaGreatDoor
open Go.RowKit
def mostF (S : Int → Option Int) : List Int → Int → Int
 | [],m=>m
 | c :: l,m=>match S c with
  | some n=>if m < n then mostF S l n else mostF S l m
  | none=>mostF S l m
def firstF (S : Int → Option Int) : List Int → Int → Int
 | [],_=>-1
 | c :: l,m=>if S c = some m then c else firstF S l m
def guess10M (S : Int → Option Int) (l : List Int) : Int:=if mostF S l 0 = 0 then -1 else firstF S l (mostF S l 0)
theorem most_none {S : Int → Option Int} {c : Int} (h : S c = none) (l : List Int) (m : Int) : mostF S (c :: l) m = mostF S l m:=by rw [mostF,h]
theorem most_less {S : Int → Option Int} {c n : Int} (h : S c = some n) (l : List Int) (m : Int) (hl : ¬ m < n) : mostF S (c :: l) m = mostF S l m:=by rw [mostF,h];simp only;rw [if_neg hl]
theorem most_more {S : Int → Option Int} {c n : Int} (h : S c = some n) (l : List Int) (m : Int) (hl : m < n) : mostF S (c :: l) m = mostF S l n:=by rw [mostF,h];simp only;rw [if_pos hl]
theorem most_ge (S : Int → Option Int) : ∀ (l : List Int) (a : Int),a ≤ mostF S l a:=by
 intro l
 induction l with
 | nil=>intro a;exact Int.le_refl _
 | cons c l ih=>
  intro a
  cases h : S c with
  | none=>rw [most_none h];exact ih a
  | some n=>
   by_cases hl : a < n
   · rw [most_more h _ _ hl];exact Int.le_trans (by omega) (ih n)
   · rw [most_less h _ _ hl];exact ih a
theorem guessF_eq (S : Int → Option Int) : ∀ (l : List Int) (a g : Int) (f : Bool),guessF S l (a,g,f) = (mostF S l a,if mostF S l a = a then g else firstF S l (mostF S l a),f || !decide (mostF S l a = a)):=by
 intro l
 induction l with
 | nil=>intro a g f;simp [guessF,mostF]
 | cons c l ih=>
  intro a g f
  cases h : S c with
  | none=>
   rw [guessF_none h,ih,most_none h,firstF,h,if_neg (show ¬ (none : Option Int) = some (mostF S l a) from by simp)]
  | some n=>
   by_cases hl : a < n
   · have hg:=most_ge S l n
     rw [guessF_more h _ _ _ _ hl,ih,most_more h _ _ hl,firstF,h]
     rw [if_neg (show ¬ mostF S l n = a from by omega),decide_eq_false (show ¬ mostF S l n = a from by omega)]
     by_cases he : mostF S l n = n
     · rw [if_pos he,if_pos (by rw [he])];simp
     · rw [if_neg he,if_neg (by intro h';exact he (Option.some.inj h').symm)];simp
   · have hg:=most_ge S l a
     rw [guessF_less h _ _ _ _ hl,ih,most_less h _ _ hl,firstF,h]
     by_cases he : mostF S l a = a
     · rw [if_pos he,if_pos he]
     · rw [if_neg he,if_neg he,if_neg (by intro h';have:=Option.some.inj h';omega)]
theorem first_has (S : Int → Option Int) : ∀ (l : List Int) (a : Int),mostF S l a ≠ a → S (firstF S l (mostF S l a)) = some (mostF S l a):=by
 intro l
 induction l with
 | nil=>intro a h;exact absurd rfl h
 | cons c l ih=>
  intro a hne
  cases h : S c with
  | none=>rw [most_none h] at hne ⊢;rw [firstF,h,if_neg (by simp)];exact ih a hne
  | some n=>
   by_cases hl : a < n
   · rw [most_more h _ _ hl,firstF]
     by_cases he : S c = some (mostF S l n)
     · rw [if_pos he];exact he
     · rw [if_neg he]
       exact ih n (by intro h';rw [h'] at he;exact he h)
   · rw [most_less h _ _ hl] at hne ⊢
     rw [firstF]
     by_cases he : S c = some (mostF S l a)
     · rw [if_pos he];exact he
     · rw [if_neg he];exact ih a hne
theorem scoreR_in (c n : Int) (l : List UInt8) (h : scoreR c l = some n) : 0 ≤ c ∧ c ≤ 6:=by
 unfold scoreR at h
 split at h
 · assumption
 · cases h
theorem guess_eq (b : List UInt8) (l : List Int) : (guessR b l).2 = (if 0 ≤ guess10M (fun c=>scoreR c b) l then guess10M (fun c=>scoreR c b) l else 0,decide (0 ≤ guess10M (fun c=>scoreR c b) l)) ∧ -1 ≤ guess10M (fun c=>scoreR c b) l ∧ guess10M (fun c=>scoreR c b) l ≤ 6:=by
 unfold guessR
 rw [guessF_eq]
 unfold guess10M
 by_cases hz : mostF (fun c=>scoreR c b) l 0 = 0
 · rw [if_pos hz,hz];simp
 · have h1:=first_has (fun c=>scoreR c b) l 0 hz
   obtain ⟨h2,h3⟩:=scoreR_in _ _ _ h1
   rw [if_neg hz,decide_eq_false hz]
   rw [if_neg hz,if_pos h2,decide_eq_true h2]
   exact ⟨rfl,by omega,h3⟩
theorem lab_find : ∀ c : Fin 10,∀ s ∈ labL (c.val : Nat),(namesF.findIdx? fun x=>decide (x = s)).map (· / 3) = some c.val:=by decide +kernel
theorem lab_all : ∀ s ∈ namesF,s = ⟨#[]⟩ ∨ (List.range 10).any (fun (c : Nat)=>(labL (c : Int)).any fun x=>decide (x = s)) = true:=by decide +kernel
theorem lab_ne : ∀ c : Fin 10,∀ s ∈ labL (c.val : Nat),bl s ≠ []:=by decide +kernel
theorem ba_ext {a b : ByteArray} (h : bl a = bl b) : a = b:=ByteArray.ext (Array.toList_inj.1 h)
theorem ref_named (l : List UInt8) : refNamed l = match namedM l with
 | some c=>(c : Int)
 | none=>-1:=by
 by_cases hex : ∃ c,c < 10 ∧ hasLab l c = true
 · -- the first such charset
   obtain ⟨c,hc,h⟩:=hex
   unfold hasLab at h
   rw [List.any_eq_true] at h
   obtain ⟨x,hx,he⟩:=h
   have he' : smallL l = bl x:=by simpa using he
   have hxt : (⟨(smallL l).toArray⟩ : ByteArray) = x:=by rw [he']
   have hne : l ≠ []:=by
    rintro rfl
    exact lab_ne ⟨c,hc⟩ x hx he'.symm
   have hn : namedM l = some c:=by
    unfold namedM
    rw [if_neg hne,hxt]
    exact lab_find ⟨c,hc⟩ x hx
   have hr : refNamed l = c:=by
    refine ref_hit l c hc (fun d hd=>?_) (by unfold hasLab;rw [List.any_eq_true];exact ⟨x,hx,he⟩)
    cases hq : hasLab l d with
    | false=>rfl
    | true=>
     exfalso
     unfold hasLab at hq
     rw [List.any_eq_true] at hq
     obtain ⟨y,hy,hey⟩:=hq
     have hey' : smallL l = bl y:=by simpa using hey
     have hxy : x = y:=ba_ext (he'.symm.trans hey')
     subst hxy
     have h1:=lab_find ⟨c,hc⟩ x hx
     have h2:=lab_find ⟨d,by omega⟩ x hy
     rw [h1] at h2
     simp only [Option.some.injEq] at h2
     omega
   rw [hn,hr]
 · have hno : ∀ d,d < 10 → hasLab l d = false:=fun d hd=>by
    cases h : hasLab l d with
    | false=>rfl
    | true=>exact absurd ⟨d,hd,h⟩ hex
   have hn : namedM l = none:=by
    unfold namedM
    split
    · rfl
    · rename_i hne
      rw [Option.map_eq_none_iff,List.findIdx?_eq_none_iff]
      intro s hs
      simp only [decide_eq_false_iff_not]
      intro he
      rcases lab_all s hs with h | h
      · rw [h] at he
        have h5:=congrArg (fun z : ByteArray=>(bl z).length) he
        simp only [smallL,List.length_map] at h5
        exact hne (List.eq_nil_of_length_eq_zero (by simpa [bl] using h5.symm))
      · rw [List.any_eq_true] at h
        obtain ⟨c,hc,h⟩:=h
        rw [List.any_eq_true] at h
        obtain ⟨x,hx,h⟩:=h
        have hxs : x = s:=by simpa using h
        subst hxs
        have:=hno c (by simpa using hc)
        unfold hasLab at this
        rw [List.any_eq_false] at this
        exact this x hx (by rw [he];simp)
   rw [hn,ref_miss l hno]
theorem valid_scan : ∀ (f : Nat) (l : List UInt8) (at_ n : Nat),Lib.validGoD f l = (scanF f l at_ n).2.isNone:=by
 intro f
 induction f with
 | zero=>intro l at_ n;rfl
 | succ f ih=>
  intro l at_ n
  rw [Lib.validGoD,scanF]
  by_cases h : l = []
  · rw [if_pos h,if_pos h];rfl
  · rw [if_neg h,if_neg h,Lib.decodeL_N]
    have hp:=dec_pos l
    unfold badDec
    show (if (dec l).1 = 65533 ∧ (dec l).2 = 1 then false else Lib.validGoD f (l.drop (dec l).2)) = _
    by_cases hb : (dec l).1 = 65533 ∧ (dec l).2 = 1
    · rw [if_pos hb,if_pos (by rw [Bool.and_eq_true,decide_eq_true_eq,decide_eq_true_eq];omega)];rfl
    · rw [if_neg hb,if_neg (by rw [Bool.and_eq_true,decide_eq_true_eq,decide_eq_true_eq];omega)]
      exact ih _ _ _
theorem valid_any (s : ByteArray) (w : World) (hT : TW w) (hs : s.size ≤ 9223372036854775807) :
 Calls Tryz.prog 69 #[.string s] w fun e w'=>e = .returned (.bool (scanL (bl s)).2.isNone) ∧ Below w.heap.size w w':=by
 have k1 : ∀ w,TW w → Calls Tryz.prog 102 #[.string s] w fun e w'=>e = .returned (.bool (scanL (bl s)).2.isNone) ∧ Below w.heap.size w w':=by
  intro w hT
  have h:=Any.utf8_ValidString Tryz.laysValid s w hs hT.u8
  have e : Lib.validD s.data.toList = (scanL (bl s)).2.isNone:=valid_scan _ _ _ _
  rw [e] at h
  exact h
 generalize (scanL (bl s)).2.isNone = r at *
 have K1:=Lib.hid k1
 clear k1
 go_enter Tryz.func69,Tryz.ntmps69
 go_wp2_with (go_at_call 102;refine (K1.out _ hT).mono ?_;rintro e w1 ⟨rfl,hb1⟩)
 go_ret
 exact ⟨rfl,hb1⟩
noncomputable def resM (b d : List UInt8) (fb : Int) (g : Bool) : Int:=
 if (scanL b).2.isNone = true then 7 else if 0 ≤ refNamed d then refNamed d
 else if g = true then (if 0 ≤ guess10M (fun c=>scoreR c b) orderL then guess10M (fun c=>scoreR c b) orderL else fb) else fb
set_option maxRecDepth 100000 in
theorem resolve_any (b d : ByteArray) (z fb bu : Int) (g : Bool) (w : World) (hT : TW w) (hb : b.size ≤ 1048576) (hd : d.size ≤ 1048576) :
 Calls Tryz.prog 105 #[.string b,.string d,.agg #[.int .i64 z,.int .i64 fb,.bool g,.int .i64 bu]] w fun e w'=>e = .returned (.int .i64 (resM (bl b) (bl d) fb g)) ∧ Below w.heap.size w w':=by
 have hm : resM (bl b) (bl d) fb g = if (scanL (bl b)).2.isNone = true then 7 else if 0 ≤ refNamed (bl d) then refNamed (bl d)
  else if g = true then (if 0 ≤ guess10M (fun c=>scoreR c (bl b)) orderL then guess10M (fun c=>scoreR c (bl b)) orderL else fb) else fb:=rfl
 obtain ⟨R,hR⟩ : ∃ R,R = resM (bl b) (bl d) fb g:=⟨_,rfl⟩
 rw [← hR] at hm ⊢
 have k1:=fun w hT=>valid_any b w hT (by omega)
 have k2:=fun w=>named_any d w (by omega)
 have k3:=fun w=>order_any w
 have hg:=(guess_eq (bl b) orderL).1
 have k4 : ∀ v w,TW w → Row w v 7 (ccells orderL) → Calls Tryz.prog 112 #[.string b,v] w fun e w'=>e = .returned (.tuple #[.int .i64 (guessR (bl b) orderL).2.1,.bool (guessR (bl b) orderL).2.2]) ∧ Below w.heap.size w w':=
  fun v w hT hr=>guess_any b v orderL w hT hb hr (by decide)
 rw [hg] at k4
 simp only at k4
 have hrn:=ref_named (bl d)
 generalize (scanL (bl b)).2.isNone = ok at *
 generalize guess10M (fun c=>scoreR c (bl b)) orderL = G at *
 generalize refNamed (bl d) = N at *
 generalize namedM (bl d) = M at *
 unfold NamedPost at k2
 have hbA:=(Below.refl w.heap.size w).alloc (Nat.le_refl _) (.cells #[.int .i64 z,.int .i64 fb,.bool g,.int .i64 bu] 67)
 have hTA:=hT.bel hbA
 have l1:=Live.fresh w #[.int .i64 z,.int .i64 fb,.bool g,.int .i64 bu] 67 1 _ rfl
 have l2:=Live.fresh w #[.int .i64 z,.int .i64 fb,.bool g,.int .i64 bu] 67 2 _ rfl
 have K1:=Lib.hid k1
 have K2:=Lib.hid k2
 have K3:=Lib.hid k3
 have K4:=Lib.hid k4
 have HM:=Lib.hid hm
 have HRN:=Lib.hid hrn
 have HBA:=Lib.hid hbA
 have HTA:=Lib.hid hTA
 have L1:=Lib.hid l1
 have L2:=Lib.hid l2
 clear k1 k2 k3 k4 hm hrn hbA hTA l1 l2
 clear hg hR
 cases ok with
 | true=>
  have hm:=HM.out
  rw [if_pos rfl] at hm
  subst hm
  clear HM
  go_enter Tryz.func105,Tryz.ntmps105
  go_wp2_with (go_at_call 69;refine (K1.out _ HTA.out).mono ?_;rintro e w1 ⟨rfl,hb1⟩)
  go_ret
  exact ⟨rfl,HBA.out.trans (hb1.mono HBA.out.size)⟩
 | false=>
  have hm:=HM.out
  rw [if_neg (by decide)] at hm
  clear HM
  have hrn:=HRN.out
  clear HRN
  cases M with
  | some c=>
   simp only at hrn
   subst hrn
   rw [if_pos (by omega)] at hm
   subst hm
   have K2' : Hid (∀ w,Calls Tryz.prog 124 #[.string d] w fun e w'=>e = .returned (.tuple #[.int .i64 (c : Int),.bool true]) ∧ Below w.heap.size w w'):=K2
   clear K2
   go_enter Tryz.func105,Tryz.ntmps105
   go_wp2_with (first
    | (go_at_call 69;refine (K1.out _ HTA.out).mono ?_;rintro e w1 ⟨rfl,hb1⟩)
    | (go_at_call 124;refine (K2'.out _).mono ?_;rintro e w2 ⟨rfl,hb2⟩))
   go_ret
   exact ⟨rfl,HBA.out.trans ((bt hb1 hb2).mono HBA.out.size)⟩
  | none=>
   simp only at hrn
   subst hrn
   rw [if_neg (by decide)] at hm
   have K2' : Hid (∀ w,Calls Tryz.prog 124 #[.string d] w fun e w'=>e = .returned (.tuple #[.int .i64 0,.bool false]) ∧ Below w.heap.size w w'):=K2
   clear K2
   cases g with
   | false=>
    rw [if_neg (by decide)] at hm
    subst hm
    go_enter Tryz.func105,Tryz.ntmps105
    go_wp2_with (first
     | (go_at_call 69;refine (K1.out _ HTA.out).mono ?_;rintro e w1 ⟨rfl,hb1⟩)
     | (go_at_call 124;refine (K2'.out _).mono ?_;rintro e w2 ⟨rfl,hb2⟩;have q1:=(L1.out.keep (bt hb1 hb2)).1;have q2:=(L2.out.keep (bt hb1 hb2)).1))
    go_ret
    exact ⟨rfl,HBA.out.trans ((bt hb1 hb2).mono HBA.out.size)⟩
   | true=>
    rw [if_pos rfl] at hm
    by_cases hG : 0 ≤ G
    · rw [if_pos hG] at hm
      subst hm
      have K4' : Hid (∀ v w,TW w → Row w v 7 (ccells orderL) → Calls Tryz.prog 112 #[.string b,v] w fun e w'=>e = .returned (.tuple #[.int .i64 R,.bool true]) ∧ Below w.heap.size w w'):=by
       have h:=K4.out
       rw [if_pos hG,decide_eq_true hG] at h
       exact h
      clear K4 hG
      go_enter Tryz.func105,Tryz.ntmps105
      go_wp2_with (first
       | (go_at_call 69;refine (K1.out _ HTA.out).mono ?_;rintro e w1 ⟨rfl,hb1⟩)
       | (go_at_call 124;refine (K2'.out _).mono ?_;rintro e w2 ⟨rfl,hb2⟩;have q1:=(L1.out.keep (bt hb1 hb2)).1;have q2:=(L2.out.keep (bt hb1 hb2)).1)
       | (go_at_call 113;refine (K3.out _).mono ?_;rintro e w3 ⟨v,rfl,hrow,hb3⟩)
       | (go_at_call 112;refine (K4'.out _ _ (HTA.out.bel (bt (bt hb1 hb2) hb3)) hrow).mono ?_;rintro e w4 ⟨rfl,hb4⟩))
      go_ret
      exact ⟨rfl,HBA.out.trans ((bt (bt (bt hb1 hb2) hb3) hb4).mono HBA.out.size)⟩
    · rw [if_neg hG] at hm
      subst hm
      have K4' : Hid (∀ v w,TW w → Row w v 7 (ccells orderL) → Calls Tryz.prog 112 #[.string b,v] w fun e w'=>e = .returned (.tuple #[.int .i64 0,.bool false]) ∧ Below w.heap.size w w'):=by
       have h:=K4.out
       rw [if_neg hG,decide_eq_false hG] at h
       exact h
      clear K4 hG
      go_enter Tryz.func105,Tryz.ntmps105
      go_wp2_with (first
       | (go_at_call 69;refine (K1.out _ HTA.out).mono ?_;rintro e w1 ⟨rfl,hb1⟩)
       | (go_at_call 124;refine (K2'.out _).mono ?_;rintro e w2 ⟨rfl,hb2⟩;have q1:=(L1.out.keep (bt hb1 hb2)).1;have q2:=(L2.out.keep (bt hb1 hb2)).1)
       | (go_at_call 113;refine (K3.out _).mono ?_;rintro e w3 ⟨v,rfl,hrow,hb3⟩)
       | (go_at_call 112;refine (K4'.out _ _ (HTA.out.bel (bt (bt hb1 hb2) hb3)) hrow).mono ?_;rintro e w4 ⟨rfl,hb4⟩;have s1:=(L1.out.keep (bt (bt (bt hb1 hb2) hb3) hb4)).1))
      go_ret
      exact ⟨rfl,HBA.out.trans ((bt (bt (bt hb1 hb2) hb3) hb4).mono HBA.out.size)⟩
theorem sc_ko : scoreR 1 [193,194] = some 8:=by decide +kernel
theorem sc_1 : scoreR 1 [176,161] = some (-8):=by decide +kernel
theorem sc_2 : scoreR 2 [176,161] = some (-8):=by decide +kernel
theorem sc_3 : scoreR 3 [176,161] = some 0:=by decide +kernel
theorem sc_0 : scoreR 0 [176,161] = some (-2):=by decide +kernel
theorem sc_6 : scoreR 6 [176,161] = none:=by decide +kernel
theorem sc_5 : scoreR 5 [176,161] = some 2:=by decide +kernel
theorem sc_4 : scoreR 4 [176,161] = some 6:=by decide +kernel
theorem guess_ga : guessR [176,161] orderL = (6,4,true):=by
 have h4:=sc_4
 have h6:=sc_6
 have h5:=sc_5
 have h1:=sc_1
 have h2:=sc_2
 have h3:=sc_3
 have h0:=sc_0
 unfold guessR orderL
 obtain ⟨S,hS⟩ : ∃ S : Int → Option Int,S = fun c=>scoreR c [176,161]:=⟨_,rfl⟩
 rw [← hS]
 have e4 : S 4 = some 6:=by rw [hS];exact h4
 have e6 : S 6 = none:=by rw [hS];exact h6
 have e5 : S 5 = some 2:=by rw [hS];exact h5
 have e1 : S 1 = some (-8):=by rw [hS];exact h1
 have e2 : S 2 = some (-8):=by rw [hS];exact h2
 have e3 : S 3 = some 0:=by rw [hS];exact h3
 have e0 : S 0 = some (-2):=by rw [hS];exact h0
 rw [guessF_more e4 _ _ _ _ (by decide),guessF_none e6,guessF_less e5 _ _ _ _ (by decide),guessF_less e1 _ _ _ _ (by decide),guessF_less e2 _ _ _ _ (by decide),guessF_less e3 _ _ _ _ (by decide),guessF_less e0 _ _ _ _ (by decide)]
 rfl
theorem awake10_any (w : World) (hT : TW w) : Calls Tryz.prog 92 #[] w fun e w'=>e = .returned (.bool true) ∧ Below w.heap.size w w':=by
 have k1 : ∀ w,TW w → Calls Tryz.prog 111 #[.int .i64 1,.string ⟨#[193,194]⟩] w fun e w'=>e = .returned (.tuple #[.int .i64 8,.bool true]) ∧ Below w.heap.size w w':=fun w hT=>by
  have h:=score_any 1 ⟨#[193,194]⟩ w hT (by decide)
  rw [show bl ⟨#[193,194]⟩ = [193,194] from rfl,sc_ko] at h
  exact h
 have k2 : ∀ v w,TW w → Row w v 7 (ccells orderL) → Calls Tryz.prog 112 #[.string ⟨#[176,161]⟩,v] w fun e w'=>e = .returned (.tuple #[.int .i64 4,.bool true]) ∧ Below w.heap.size w w':=fun v w hT hr=>by
  have h:=guess_any ⟨#[176,161]⟩ v orderL w hT (by decide) hr (by decide)
  rw [show bl ⟨#[176,161]⟩ = [176,161] from rfl,guess_ga] at h
  exact h
 have k3:=fun w=>order_any w
 have k4:=fun w hT=>awake09_any w hT
 have K1:=Lib.hid k1
 have K2:=Lib.hid k2
 have K3:=Lib.hid k3
 have K4:=Lib.hid k4
 clear k1 k2 k3 k4
 go_enter Tryz.func92,Tryz.ntmps92
 go_wp2_with (first
  | (go_at_call 111;refine (K1.out _ hT).mono ?_;rintro e w1 ⟨rfl,hb1⟩)
  | (go_at_call 113;refine (K3.out _).mono ?_;rintro e w2 ⟨v,rfl,hr,hb2⟩)
  | (go_at_call 112;refine (K2.out _ _ (hT.bel (bt hb1 hb2)) hr).mono ?_;rintro e w3 ⟨rfl,hb3⟩)
  | (go_at_call 114;refine (K4.out _ (hT.bel (bt (bt hb1 hb2) hb3))).mono ?_;rintro e w4 ⟨rfl,hb4⟩))
 go_ret
 exact ⟨rfl,bt (bt (bt hb1 hb2) hb3) hb4⟩
end Go.Proofs.YtnbglcaeekppjaaGreatDoor
